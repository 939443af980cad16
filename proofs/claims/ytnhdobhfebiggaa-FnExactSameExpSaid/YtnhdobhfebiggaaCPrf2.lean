import Derived.Test.YtnhdobhfebiggaaCPrf1
namespace W
set_option linter.unusedSimpArgs false
open Go HL S
set_option linter.unusedVariables false
set_option maxRecDepth 100000
set_option maxHeartbeats 4000000
namespace K
theorem impl_SameExp_all : (∀ (x : (Exp × Exp)) (r : Bool), M.impl_SameExp x = some r → HCp P F.impl_SameExp [(Exp.enc x.1), (Exp.enc x.2)] (HV.bool r)) ∧
  (∀ (x : ((List Alt) × (List Alt))) (r : Bool), M.slices_EqualFunc_impl_Alt_at_sameAlt x = some r → HCp P F.slices_EqualFunc_impl_Alt [(.sl (List.map Alt.enc x.1)), (.sl (List.map Alt.enc x.2)), (.fn F.impl_sameAlt [] [])] (HV.bool r)) ∧
  (∀ (x : ((List Alt) × (List Alt) × Int)) (out : (Sum Bool Unit)), M.slices_EqualFunc_impl_Alt_at_sameAlt_L0 x = some out → ∀ Q : HExit → Env → St → Prop, (∀ v, out = .inr v → ∀ env st sel, Weak 0 sel [] [] env st → Q (.exit 0) env st) → (∀ r, out = .inl r → ∀ env st, RetP [(6, none)] (HV.bool r) env st → Q .ret env st) → SemL P H.slices_EqualFunc_impl_Alt.ntmps 0 H.slices_EqualFunc_impl_Alt_l5 [(1, (.sl (List.map Alt.enc x.1))), (2, (.fn F.impl_sameAlt [] [])), (15, (.sl (List.map Alt.enc x.2.1))), (16, (.int .i64 ((x.2.1.length : Nat) : Int))), (17, (.int .i64 x.2.2))] [] Q) ∧
  (∀ (x : (Alt × Alt)) (r : Bool), M.impl_sameAlt x = some r → HCp P F.impl_sameAlt [(Alt.enc x.1), (Alt.enc x.2)] (HV.bool r)) ∧
  (∀ (x : ((List Dec) × (List Dec))) (r : Bool), M.slices_EqualFunc_impl_Dec_at_sameDec x = some r → HCp P F.slices_EqualFunc_impl_Dec [(.sl (List.map Dec.enc x.1)), (.sl (List.map Dec.enc x.2)), (.fn F.impl_sameDec [] [])] (HV.bool r)) ∧
  (∀ (x : ((List Dec) × (List Dec) × Int)) (out : (Sum Bool Unit)), M.slices_EqualFunc_impl_Dec_at_sameDec_L0 x = some out → ∀ Q : HExit → Env → St → Prop, (∀ v, out = .inr v → ∀ env st sel, Weak 0 sel [] [] env st → Q (.exit 0) env st) → (∀ r, out = .inl r → ∀ env st, RetP [(6, none)] (HV.bool r) env st → Q .ret env st) → SemL P H.slices_EqualFunc_impl_Dec.ntmps 0 H.slices_EqualFunc_impl_Dec_l5 [(1, (.sl (List.map Dec.enc x.1))), (2, (.fn F.impl_sameDec [] [])), (15, (.sl (List.map Dec.enc x.2.1))), (16, (.int .i64 ((x.2.1.length : Nat) : Int))), (17, (.int .i64 x.2.2))] [] Q) ∧
  (∀ (x : (Dec × Dec)) (r : Bool), M.impl_sameDec x = some r → HCp P F.impl_sameDec [(Dec.enc x.1), (Dec.enc x.2)] (HV.bool r)) ∧
  (∀ (x : ((List Exp) × (List Exp))) (r : Bool), M.slices_EqualFunc_impl_Exp_at_SameExp x = some r → HCp P F.slices_EqualFunc_impl_Exp [(.sl (List.map Exp.enc x.1)), (.sl (List.map Exp.enc x.2)), (.fn F.impl_SameExp [] [])] (HV.bool r)) ∧
  (∀ (x : ((List Exp) × (List Exp) × Int)) (out : (Sum Bool Unit)), M.slices_EqualFunc_impl_Exp_at_SameExp_L0 x = some out → ∀ Q : HExit → Env → St → Prop, (∀ v, out = .inr v → ∀ env st sel, Weak 0 sel [] [] env st → Q (.exit 0) env st) → (∀ r, out = .inl r → ∀ env st, RetP [(6, none)] (HV.bool r) env st → Q .ret env st) → SemL P H.slices_EqualFunc_impl_Exp.ntmps 0 H.slices_EqualFunc_impl_Exp_l5 [(1, (.sl (List.map Exp.enc x.1))), (2, (.fn F.impl_SameExp [] [])), (15, (.sl (List.map Exp.enc x.2.1))), (16, (.int .i64 ((x.2.1.length : Nat) : Int))), (17, (.int .i64 x.2.2))] [] Q) := by
  refine M.impl_SameExp.mutual_partial_correctness (motive_1 := fun x r => HCp P F.impl_SameExp [(Exp.enc x.1), (Exp.enc x.2)] (HV.bool r)) (motive_2 := fun x r => HCp P F.slices_EqualFunc_impl_Alt [(.sl (List.map Alt.enc x.1)), (.sl (List.map Alt.enc x.2)), (.fn F.impl_sameAlt [] [])] (HV.bool r)) (motive_3 := fun x out => ∀ Q : HExit → Env → St → Prop, (∀ v, out = .inr v → ∀ env st sel, Weak 0 sel [] [] env st → Q (.exit 0) env st) → (∀ r, out = .inl r → ∀ env st, RetP [(6, none)] (HV.bool r) env st → Q .ret env st) → SemL P H.slices_EqualFunc_impl_Alt.ntmps 0 H.slices_EqualFunc_impl_Alt_l5 [(1, (.sl (List.map Alt.enc x.1))), (2, (.fn F.impl_sameAlt [] [])), (15, (.sl (List.map Alt.enc x.2.1))), (16, (.int .i64 ((x.2.1.length : Nat) : Int))), (17, (.int .i64 x.2.2))] [] Q) (motive_4 := fun x r => HCp P F.impl_sameAlt [(Alt.enc x.1), (Alt.enc x.2)] (HV.bool r)) (motive_5 := fun x r => HCp P F.slices_EqualFunc_impl_Dec [(.sl (List.map Dec.enc x.1)), (.sl (List.map Dec.enc x.2)), (.fn F.impl_sameDec [] [])] (HV.bool r)) (motive_6 := fun x out => ∀ Q : HExit → Env → St → Prop, (∀ v, out = .inr v → ∀ env st sel, Weak 0 sel [] [] env st → Q (.exit 0) env st) → (∀ r, out = .inl r → ∀ env st, RetP [(6, none)] (HV.bool r) env st → Q .ret env st) → SemL P H.slices_EqualFunc_impl_Dec.ntmps 0 H.slices_EqualFunc_impl_Dec_l5 [(1, (.sl (List.map Dec.enc x.1))), (2, (.fn F.impl_sameDec [] [])), (15, (.sl (List.map Dec.enc x.2.1))), (16, (.int .i64 ((x.2.1.length : Nat) : Int))), (17, (.int .i64 x.2.2))] [] Q) (motive_7 := fun x r => HCp P F.impl_sameDec [(Dec.enc x.1), (Dec.enc x.2)] (HV.bool r)) (motive_8 := fun x r => HCp P F.slices_EqualFunc_impl_Exp [(.sl (List.map Exp.enc x.1)), (.sl (List.map Exp.enc x.2)), (.fn F.impl_SameExp [] [])] (HV.bool r)) (motive_9 := fun x out => ∀ Q : HExit → Env → St → Prop, (∀ v, out = .inr v → ∀ env st sel, Weak 0 sel [] [] env st → Q (.exit 0) env st) → (∀ r, out = .inl r → ∀ env st, RetP [(6, none)] (HV.bool r) env st → Q .ret env st) → SemL P H.slices_EqualFunc_impl_Exp.ntmps 0 H.slices_EqualFunc_impl_Exp_l5 [(1, (.sl (List.map Exp.enc x.1))), (2, (.fn F.impl_SameExp [] [])), (15, (.sl (List.map Exp.enc x.2.1))), (16, (.int .i64 ((x.2.1.length : Nat) : Int))), (17, (.int .i64 x.2.2))] [] Q) ?_ ?_ ?_ ?_ ?_ ?_ ?_ ?_ ?_
  · exact fun f_slices_EqualFunc_impl_Alt_at_sameAlt f_slices_EqualFunc_impl_Dec_at_sameDec f_slices_EqualFunc_impl_Exp_at_SameExp ih_slices_EqualFunc_impl_Alt_at_sameAlt ih_slices_EqualFunc_impl_Dec_at_sameDec ih_slices_EqualFunc_impl_Exp_at_SameExp x r h => K.impl_SameExp_step f_slices_EqualFunc_impl_Alt_at_sameAlt f_slices_EqualFunc_impl_Dec_at_sameDec f_slices_EqualFunc_impl_Exp_at_SameExp ih_slices_EqualFunc_impl_Alt_at_sameAlt ih_slices_EqualFunc_impl_Dec_at_sameDec ih_slices_EqualFunc_impl_Exp_at_SameExp x r h
  · exact fun f_slices_EqualFunc_impl_Alt_at_sameAlt_L0 ih_slices_EqualFunc_impl_Alt_at_sameAlt_L0 x r h => K.slices_EqualFunc_impl_Alt_at_sameAlt_step f_slices_EqualFunc_impl_Alt_at_sameAlt_L0 ih_slices_EqualFunc_impl_Alt_at_sameAlt_L0 x r h
  · exact fun f_slices_EqualFunc_impl_Alt_at_sameAlt_L0 f_impl_sameAlt ih_slices_EqualFunc_impl_Alt_at_sameAlt_L0 ih_impl_sameAlt x out h => K.slices_EqualFunc_impl_Alt_at_sameAlt_L0_step f_slices_EqualFunc_impl_Alt_at_sameAlt_L0 f_impl_sameAlt ih_slices_EqualFunc_impl_Alt_at_sameAlt_L0 ih_impl_sameAlt x out h
  · exact fun f_impl_SameExp ih_impl_SameExp x r h => K.impl_sameAlt_step f_impl_SameExp ih_impl_SameExp x r h
  · exact fun f_slices_EqualFunc_impl_Dec_at_sameDec_L0 ih_slices_EqualFunc_impl_Dec_at_sameDec_L0 x r h => K.slices_EqualFunc_impl_Dec_at_sameDec_step f_slices_EqualFunc_impl_Dec_at_sameDec_L0 ih_slices_EqualFunc_impl_Dec_at_sameDec_L0 x r h
  · exact fun f_slices_EqualFunc_impl_Dec_at_sameDec_L0 f_impl_sameDec ih_slices_EqualFunc_impl_Dec_at_sameDec_L0 ih_impl_sameDec x out h => K.slices_EqualFunc_impl_Dec_at_sameDec_L0_step f_slices_EqualFunc_impl_Dec_at_sameDec_L0 f_impl_sameDec ih_slices_EqualFunc_impl_Dec_at_sameDec_L0 ih_impl_sameDec x out h
  · exact fun f_impl_SameExp f_slices_EqualFunc_impl_Dec_at_sameDec ih_impl_SameExp ih_slices_EqualFunc_impl_Dec_at_sameDec x r h => K.impl_sameDec_step f_impl_SameExp f_slices_EqualFunc_impl_Dec_at_sameDec ih_impl_SameExp ih_slices_EqualFunc_impl_Dec_at_sameDec x r h
  · exact fun f_slices_EqualFunc_impl_Exp_at_SameExp_L0 ih_slices_EqualFunc_impl_Exp_at_SameExp_L0 x r h => K.slices_EqualFunc_impl_Exp_at_SameExp_step f_slices_EqualFunc_impl_Exp_at_SameExp_L0 ih_slices_EqualFunc_impl_Exp_at_SameExp_L0 x r h
  · exact fun f_impl_SameExp f_slices_EqualFunc_impl_Exp_at_SameExp_L0 ih_impl_SameExp ih_slices_EqualFunc_impl_Exp_at_SameExp_L0 x out h => K.slices_EqualFunc_impl_Exp_at_SameExp_L0_step f_impl_SameExp f_slices_EqualFunc_impl_Exp_at_SameExp_L0 ih_impl_SameExp ih_slices_EqualFunc_impl_Exp_at_SameExp_L0 x out h
theorem impl_SameExp : (∀ (x : (Exp × Exp)) (r : Bool), M.impl_SameExp x = some r → HCp P F.impl_SameExp [(Exp.enc x.1), (Exp.enc x.2)] (HV.bool r)) := K.impl_SameExp_all.1
theorem slices_EqualFunc_impl_Alt_at_sameAlt : (∀ (x : ((List Alt) × (List Alt))) (r : Bool), M.slices_EqualFunc_impl_Alt_at_sameAlt x = some r → HCp P F.slices_EqualFunc_impl_Alt [(.sl (List.map Alt.enc x.1)), (.sl (List.map Alt.enc x.2)), (.fn F.impl_sameAlt [] [])] (HV.bool r)) := K.impl_SameExp_all.2.1
theorem slices_EqualFunc_impl_Alt_at_sameAlt_L0 : (∀ (x : ((List Alt) × (List Alt) × Int)) (out : (Sum Bool Unit)), M.slices_EqualFunc_impl_Alt_at_sameAlt_L0 x = some out → ∀ Q : HExit → Env → St → Prop, (∀ v, out = .inr v → ∀ env st sel, Weak 0 sel [] [] env st → Q (.exit 0) env st) → (∀ r, out = .inl r → ∀ env st, RetP [(6, none)] (HV.bool r) env st → Q .ret env st) → SemL P H.slices_EqualFunc_impl_Alt.ntmps 0 H.slices_EqualFunc_impl_Alt_l5 [(1, (.sl (List.map Alt.enc x.1))), (2, (.fn F.impl_sameAlt [] [])), (15, (.sl (List.map Alt.enc x.2.1))), (16, (.int .i64 ((x.2.1.length : Nat) : Int))), (17, (.int .i64 x.2.2))] [] Q) := K.impl_SameExp_all.2.2.1
theorem impl_sameAlt : (∀ (x : (Alt × Alt)) (r : Bool), M.impl_sameAlt x = some r → HCp P F.impl_sameAlt [(Alt.enc x.1), (Alt.enc x.2)] (HV.bool r)) := K.impl_SameExp_all.2.2.2.1
theorem slices_EqualFunc_impl_Dec_at_sameDec : (∀ (x : ((List Dec) × (List Dec))) (r : Bool), M.slices_EqualFunc_impl_Dec_at_sameDec x = some r → HCp P F.slices_EqualFunc_impl_Dec [(.sl (List.map Dec.enc x.1)), (.sl (List.map Dec.enc x.2)), (.fn F.impl_sameDec [] [])] (HV.bool r)) := K.impl_SameExp_all.2.2.2.2.1
theorem slices_EqualFunc_impl_Dec_at_sameDec_L0 : (∀ (x : ((List Dec) × (List Dec) × Int)) (out : (Sum Bool Unit)), M.slices_EqualFunc_impl_Dec_at_sameDec_L0 x = some out → ∀ Q : HExit → Env → St → Prop, (∀ v, out = .inr v → ∀ env st sel, Weak 0 sel [] [] env st → Q (.exit 0) env st) → (∀ r, out = .inl r → ∀ env st, RetP [(6, none)] (HV.bool r) env st → Q .ret env st) → SemL P H.slices_EqualFunc_impl_Dec.ntmps 0 H.slices_EqualFunc_impl_Dec_l5 [(1, (.sl (List.map Dec.enc x.1))), (2, (.fn F.impl_sameDec [] [])), (15, (.sl (List.map Dec.enc x.2.1))), (16, (.int .i64 ((x.2.1.length : Nat) : Int))), (17, (.int .i64 x.2.2))] [] Q) := K.impl_SameExp_all.2.2.2.2.2.1
theorem impl_sameDec : (∀ (x : (Dec × Dec)) (r : Bool), M.impl_sameDec x = some r → HCp P F.impl_sameDec [(Dec.enc x.1), (Dec.enc x.2)] (HV.bool r)) := K.impl_SameExp_all.2.2.2.2.2.2.1
theorem slices_EqualFunc_impl_Exp_at_SameExp : (∀ (x : ((List Exp) × (List Exp))) (r : Bool), M.slices_EqualFunc_impl_Exp_at_SameExp x = some r → HCp P F.slices_EqualFunc_impl_Exp [(.sl (List.map Exp.enc x.1)), (.sl (List.map Exp.enc x.2)), (.fn F.impl_SameExp [] [])] (HV.bool r)) := K.impl_SameExp_all.2.2.2.2.2.2.2.1
theorem slices_EqualFunc_impl_Exp_at_SameExp_L0 : (∀ (x : ((List Exp) × (List Exp) × Int)) (out : (Sum Bool Unit)), M.slices_EqualFunc_impl_Exp_at_SameExp_L0 x = some out → ∀ Q : HExit → Env → St → Prop, (∀ v, out = .inr v → ∀ env st sel, Weak 0 sel [] [] env st → Q (.exit 0) env st) → (∀ r, out = .inl r → ∀ env st, RetP [(6, none)] (HV.bool r) env st → Q .ret env st) → SemL P H.slices_EqualFunc_impl_Exp.ntmps 0 H.slices_EqualFunc_impl_Exp_l5 [(1, (.sl (List.map Exp.enc x.1))), (2, (.fn F.impl_SameExp [] [])), (15, (.sl (List.map Exp.enc x.2.1))), (16, (.int .i64 ((x.2.1.length : Nat) : Int))), (17, (.int .i64 x.2.2))] [] Q) := K.impl_SameExp_all.2.2.2.2.2.2.2.2
theorem spec_l3SameTexts_L0 : ∀ (x : ((List ByteArray) × (List ByteArray) × Int)) (out : (Sum Bool Unit)), M.spec_l3SameTexts_L0 x = some out → ∀ Q : HExit → Env → St → Prop, (∀ v, out = .inr v → ∀ env st sel, Weak 0 sel [] [] env st → Q (.exit 0) env st) → (∀ r, out = .inl r → ∀ env st, RetP [(4, none)] (HV.bool r) env st → Q .ret env st) → SemL P H.spec_l3SameTexts.ntmps 0 H.spec_l3SameTexts_l5 [(0, (.sl (List.map HV.str x.1))), (1, (.sl (List.map HV.str x.2.1))), (5, (.int .i64 x.2.2))] [] Q := by
  refine M.spec_l3SameTexts_L0.partial_correctness (motive := fun x out => ∀ Q : HExit → Env → St → Prop, (∀ v, out = .inr v → ∀ env st sel, Weak 0 sel [] [] env st → Q (.exit 0) env st) → (∀ r, out = .inl r → ∀ env st, RetP [(4, none)] (HV.bool r) env st → Q .ret env st) → SemL P H.spec_l3SameTexts.ntmps 0 H.spec_l3SameTexts_l5 [(0, (.sl (List.map HV.str x.1))), (1, (.sl (List.map HV.str x.2.1))), (5, (.int .i64 x.2.2))] [] Q) ?_
  intro f_spec_l3SameTexts_L0 ih_spec_l3SameTexts_L0 x out h
  obtain ⟨p0, p1, t5_L0⟩ := x
  try dsimp only at h
  intro Q hx hr
  refine SemL.round ?_
  try dsimp only at hx
  refine SemF.seq rfl ?_
  refine SemF.seq rfl ?_
  refine SemF.reg true rfl ?_
  try simp only [hgT, ↓w_gt, ↓v_gf, ↓v_gu, ↓reduceIte, reduceCtorEq, Nat.reduceAdd, Nat.reduceEqDiff, Nat.reduceLeDiff, Nat.reduceSub, Nat.reduceMul, Nat.reduceLT, Scd, encT]; (repeat refine fun (_ : _ ≤ lim) => ?_)
  (repeat refine fun (_ : _ ≤ lim) => ?_)
  by_cases hc6 : t5_L0 < ((p0.length : Nat) : Int)
  · rw [if_pos hc6] at h
    refine SemF.cond rfl ?_
    simp only [hgT, ↓w_gt, ↓v_gf, ↓v_gu, ↓reduceIte, reduceCtorEq, Nat.reduceAdd, Nat.reduceEqDiff, Nat.reduceLeDiff, Nat.reduceSub, Nat.reduceMul, Nat.reduceLT, Scd, encT, eq_true hc6]
    refine SemF.skip rfl ?_
    simp only [hgT, ↓w_gt, ↓v_gf, ↓v_gu, ↓reduceIte, reduceCtorEq, Nat.reduceAdd, Nat.reduceEqDiff, Nat.reduceLeDiff, Nat.reduceSub, Nat.reduceMul, Nat.reduceLT, Scd, encT, eq_true hc6]
    refine SemF.seq rfl ?_
    refine SemF.block rfl ?_
    refine SemF.seq rfl ?_
    refine SemF.dreg true rfl ?_
    try simp only [hgT, ↓w_gt, ↓v_gf, ↓v_gu, ↓reduceIte, reduceCtorEq, Nat.reduceAdd, Nat.reduceEqDiff, Nat.reduceLeDiff, Nat.reduceSub, Nat.reduceMul, Nat.reduceLT, Scd, encT, eq_true hc6]; (repeat refine fun (_ : _ ≤ lim) => ?_)
    obtain ⟨e7, h_e7, h⟩ := bs h
    have m_e7 := ixm (f := HV.str) (ix_get h_e7)
    try simp only [hgT, ↓w_gt, ↓v_gf, ↓v_gu, ↓reduceIte, reduceCtorEq, Nat.reduceAdd, Nat.reduceEqDiff, Nat.reduceLeDiff, Nat.reduceSub, Nat.reduceMul, Nat.reduceLT, Scd, encT, eq_true hc6, eq_true (ix_nn h_e7), m_e7]; (repeat refine fun (_ : _ ≤ lim) => ?_)
    obtain ⟨e8, h_e8, h⟩ := bs h
    have m_e8 := ixm (f := HV.str) (ix_get h_e8)
    try simp only [hgT, ↓w_gt, ↓v_gf, ↓v_gu, ↓reduceIte, reduceCtorEq, Nat.reduceAdd, Nat.reduceEqDiff, Nat.reduceLeDiff, Nat.reduceSub, Nat.reduceMul, Nat.reduceLT, Scd, encT, eq_true hc6, eq_true (ix_nn h_e7), m_e7, eq_true (ix_nn h_e8), m_e8]; (repeat refine fun (_ : _ ≤ lim) => ?_)
    by_cases hc9 : e7 = e8
    · rw [if_pos hc9] at h
      refine SemF.cond rfl ?_
      simp only [hgT, ↓w_gt, ↓v_gf, ↓v_gu, ↓reduceIte, reduceCtorEq, Nat.reduceAdd, Nat.reduceEqDiff, Nat.reduceLeDiff, Nat.reduceSub, Nat.reduceMul, Nat.reduceLT, Scd, encT, eq_true hc6, eq_true (ix_nn h_e7), m_e7, eq_true (ix_nn h_e8), m_e8, eq_true hc9]
      refine SemF.skip rfl ?_
      simp only [hgT, ↓w_gt, ↓v_gf, ↓v_gu, ↓reduceIte, reduceCtorEq, Nat.reduceAdd, Nat.reduceEqDiff, Nat.reduceLeDiff, Nat.reduceSub, Nat.reduceMul, Nat.reduceLT, Scd, encT, eq_true hc6, eq_true (ix_nn h_e7), m_e7, eq_true (ix_nn h_e8), m_e8, eq_true hc9]
      refine SemF.reg true rfl ?_
      try simp only [hgT, ↓w_gt, ↓v_gf, ↓v_gu, ↓reduceIte, reduceCtorEq, Nat.reduceAdd, Nat.reduceEqDiff, Nat.reduceLeDiff, Nat.reduceSub, Nat.reduceMul, Nat.reduceLT, Scd, encT, eq_true hc6, eq_true (ix_nn h_e7), m_e7, eq_true (ix_nn h_e8), m_e8, eq_true hc9]; (repeat refine fun (_ : _ ≤ lim) => ?_)
      refine SemL.weak (sel := []) ⟨by simp only [hgT, ↓w_gt, ↓v_gf, ↓v_gu, ↓reduceIte, reduceCtorEq, Nat.reduceAdd, Nat.reduceEqDiff, Nat.reduceLeDiff, Nat.reduceSub, Nat.reduceMul, Nat.reduceLT, Scd, encT, hwT, selS, erT, eq_true hc6, eq_true (ix_nn h_e7), m_e7, eq_true (ix_nn h_e8), m_e8, eq_true hc9], by decide, by decide, by simp only [hgT, ↓w_gt, ↓v_gf, ↓v_gu, ↓reduceIte, reduceCtorEq, Nat.reduceAdd, Nat.reduceEqDiff, Nat.reduceLeDiff, Nat.reduceSub, Nat.reduceMul, Nat.reduceLT, Scd, encT, hwT, selS, erT, subR, eq_true hc6, eq_true (ix_nn h_e7), m_e7, eq_true (ix_nn h_e8), m_e8, eq_true hc9], by simp only [hgT, ↓w_gt, ↓v_gf, ↓v_gu, ↓reduceIte, reduceCtorEq, Nat.reduceAdd, Nat.reduceEqDiff, Nat.reduceLeDiff, Nat.reduceSub, Nat.reduceMul, Nat.reduceLT, Scd, encT, hwT, selS, erT, scT, Scd, esT, eq_true hc6, eq_true (ix_nn h_e7), m_e7, eq_true (ix_nn h_e8), m_e8, eq_true hc9], by simp only [hgT, ↓w_gt, ↓v_gf, ↓v_gu, ↓reduceIte, reduceCtorEq, Nat.reduceAdd, Nat.reduceEqDiff, Nat.reduceLeDiff, Nat.reduceSub, Nat.reduceMul, Nat.reduceLT, Scd, encT, hwT, selS, erT, scT, Scd, esT, eq_true hc6, eq_true (ix_nn h_e7), m_e7, eq_true (ix_nn h_e8), m_e8, eq_true hc9]⟩ (ih_spec_l3SameTexts_L0 (p0, p1, (IntKind.i64.wrap (t5_L0 + 1))) out h Q hx hr)
    · rw [if_neg hc9] at h
      refine SemF.cond rfl ?_
      simp only [hgT, ↓w_gt, ↓v_gf, ↓v_gu, ↓reduceIte, reduceCtorEq, Nat.reduceAdd, Nat.reduceEqDiff, Nat.reduceLeDiff, Nat.reduceSub, Nat.reduceMul, Nat.reduceLT, Scd, encT, eq_true hc6, eq_true (ix_nn h_e7), m_e7, eq_true (ix_nn h_e8), m_e8, eq_false hc9]
      refine SemF.seq rfl ?_
      refine SemF.reg true rfl ?_
      try simp only [hgT, ↓w_gt, ↓v_gf, ↓v_gu, ↓reduceIte, reduceCtorEq, Nat.reduceAdd, Nat.reduceEqDiff, Nat.reduceLeDiff, Nat.reduceSub, Nat.reduceMul, Nat.reduceLT, Scd, encT, eq_true hc6, eq_true (ix_nn h_e7), m_e7, eq_true (ix_nn h_e8), m_e8, eq_false hc9]; (repeat refine fun (_ : _ ≤ lim) => ?_)
      refine SemF.ret rfl ?_
      try simp only [hgT, ↓w_gt, ↓v_gf, ↓v_gu, ↓reduceIte, reduceCtorEq, Nat.reduceAdd, Nat.reduceEqDiff, Nat.reduceLeDiff, Nat.reduceSub, Nat.reduceMul, Nat.reduceLT, Scd, encT, eq_true hc6, eq_true (ix_nn h_e7), m_e7, eq_true (ix_nn h_e8), m_e8, eq_false hc9]; (repeat refine fun (_ : _ ≤ lim) => ?_)
      obtain rfl := Option.some.inj h
      refine hr _ rfl _ _ ?_
      simp only [hgT, ↓w_gt, ↓v_gf, ↓v_gu, ↓reduceIte, reduceCtorEq, Nat.reduceAdd, Nat.reduceEqDiff, Nat.reduceLeDiff, Nat.reduceSub, Nat.reduceMul, Nat.reduceLT, Scd, encT, RetP_def, eq_true hc6, eq_true (ix_nn h_e7), m_e7, eq_true (ix_nn h_e8), m_e8, eq_false hc9]
  · rw [if_neg hc6] at h
    refine SemF.cond rfl ?_
    simp only [hgT, ↓w_gt, ↓v_gf, ↓v_gu, ↓reduceIte, reduceCtorEq, Nat.reduceAdd, Nat.reduceEqDiff, Nat.reduceLeDiff, Nat.reduceSub, Nat.reduceMul, Nat.reduceLT, Scd, encT, eq_false hc6]
    refine SemF.exit rfl ?_
    simp only [hgT, ↓w_gt, ↓v_gf, ↓v_gu, ↓reduceIte, reduceCtorEq, Nat.reduceAdd, Nat.reduceEqDiff, Nat.reduceLeDiff, Nat.reduceSub, Nat.reduceMul, Nat.reduceLT, Scd, encT, eq_false hc6]
    obtain rfl := Option.some.inj h
    refine hx _ rfl _ _ [] ⟨by simp only [hgT, ↓w_gt, ↓v_gf, ↓v_gu, ↓reduceIte, reduceCtorEq, Nat.reduceAdd, Nat.reduceEqDiff, Nat.reduceLeDiff, Nat.reduceSub, Nat.reduceMul, Nat.reduceLT, Scd, encT, hwT, selS, erT, eq_false hc6], by decide, by decide, by simp only [hgT, ↓w_gt, ↓v_gf, ↓v_gu, ↓reduceIte, reduceCtorEq, Nat.reduceAdd, Nat.reduceEqDiff, Nat.reduceLeDiff, Nat.reduceSub, Nat.reduceMul, Nat.reduceLT, Scd, encT, hwT, selS, erT, subR, eq_false hc6], by simp only [hgT, ↓w_gt, ↓v_gf, ↓v_gu, ↓reduceIte, reduceCtorEq, Nat.reduceAdd, Nat.reduceEqDiff, Nat.reduceLeDiff, Nat.reduceSub, Nat.reduceMul, Nat.reduceLT, Scd, encT, hwT, selS, erT, scT, Scd, esT, eq_false hc6], by simp only [hgT, ↓w_gt, ↓v_gf, ↓v_gu, ↓reduceIte, reduceCtorEq, Nat.reduceAdd, Nat.reduceEqDiff, Nat.reduceLeDiff, Nat.reduceSub, Nat.reduceMul, Nat.reduceLT, Scd, encT, hwT, selS, erT, scT, Scd, esT, eq_false hc6]⟩
theorem spec_l3SameTexts : ∀ (x : ((List ByteArray) × (List ByteArray))) (r : Bool), M.spec_l3SameTexts x = some r → HCp P F.spec_l3SameTexts [(.sl (List.map HV.str x.1)), (.sl (List.map HV.str x.2))] (HV.bool r) := by
  intro x r h
  obtain ⟨p0, p1⟩ := x
  unfold M.spec_l3SameTexts at h
  try dsimp only at h
  refine HCp.mkF S.spec_l3SameTexts (by simp [H.spec_l3SameTexts]) (by simp only [scT, Scd, esT, and_self, true_and, and_true]) ?_
  simp only [hgT, ↓w_gt, ↓v_gf, ↓v_gu, ↓reduceIte, reduceCtorEq, Nat.reduceAdd, Nat.reduceEqDiff, Nat.reduceLeDiff, Nat.reduceSub, Nat.reduceMul, Nat.reduceLT, Scd, encT, H.spec_l3SameTexts]
  refine SemF.seq rfl ?_
  refine SemF.reg true rfl ?_
  try simp only [hgT, ↓w_gt, ↓v_gf, ↓v_gu, ↓reduceIte, reduceCtorEq, Nat.reduceAdd, Nat.reduceEqDiff, Nat.reduceLeDiff, Nat.reduceSub, Nat.reduceMul, Nat.reduceLT, Scd, encT]; (repeat refine fun (_ : _ ≤ lim) => ?_)
  refine SemF.seq rfl ?_
  refine SemF.seq rfl ?_
  refine SemF.reg true rfl ?_
  try simp only [hgT, ↓w_gt, ↓v_gf, ↓v_gu, ↓reduceIte, reduceCtorEq, Nat.reduceAdd, Nat.reduceEqDiff, Nat.reduceLeDiff, Nat.reduceSub, Nat.reduceMul, Nat.reduceLT, Scd, encT]; (repeat refine fun (_ : _ ≤ lim) => ?_)
  (repeat refine fun (_ : _ ≤ lim) => ?_)
  (repeat refine fun (_ : _ ≤ lim) => ?_)
  by_cases hc1 : ((p0.length : Nat) : Int) = ((p1.length : Nat) : Int)
  · rw [if_pos hc1] at h
    refine SemF.cond rfl ?_
    simp only [hgT, ↓w_gt, ↓v_gf, ↓v_gu, ↓reduceIte, reduceCtorEq, Nat.reduceAdd, Nat.reduceEqDiff, Nat.reduceLeDiff, Nat.reduceSub, Nat.reduceMul, Nat.reduceLT, Scd, encT, eq_true hc1]
    refine SemF.skip rfl ?_
    simp only [hgT, ↓w_gt, ↓v_gf, ↓v_gu, ↓reduceIte, reduceCtorEq, Nat.reduceAdd, Nat.reduceEqDiff, Nat.reduceLeDiff, Nat.reduceSub, Nat.reduceMul, Nat.reduceLT, Scd, encT, eq_true hc1]
    refine SemF.seq rfl ?_
    refine SemF.seq rfl ?_
    refine SemF.reg true rfl ?_
    try simp only [hgT, ↓w_gt, ↓v_gf, ↓v_gu, ↓reduceIte, reduceCtorEq, Nat.reduceAdd, Nat.reduceEqDiff, Nat.reduceLeDiff, Nat.reduceSub, Nat.reduceMul, Nat.reduceLT, Scd, encT, eq_true hc1]; (repeat refine fun (_ : _ ≤ lim) => ?_)
    refine SemF.block rfl ?_
    obtain ⟨s10, h_s10, h⟩ := bs h
    rcases s10 with r11 | v12
    · dsimp only at h
      refine SemF.loop rfl ?_
      refine SemL.weak (sel := []) ⟨by simp only [hgT, ↓w_gt, ↓v_gf, ↓v_gu, ↓reduceIte, reduceCtorEq, Nat.reduceAdd, Nat.reduceEqDiff, Nat.reduceLeDiff, Nat.reduceSub, Nat.reduceMul, Nat.reduceLT, Scd, encT, hwT, selS, erT, eq_true hc1], by decide, by decide, by simp only [hgT, ↓w_gt, ↓v_gf, ↓v_gu, ↓reduceIte, reduceCtorEq, Nat.reduceAdd, Nat.reduceEqDiff, Nat.reduceLeDiff, Nat.reduceSub, Nat.reduceMul, Nat.reduceLT, Scd, encT, hwT, selS, erT, subR, eq_true hc1], by simp only [hgT, ↓w_gt, ↓v_gf, ↓v_gu, ↓reduceIte, reduceCtorEq, Nat.reduceAdd, Nat.reduceEqDiff, Nat.reduceLeDiff, Nat.reduceSub, Nat.reduceMul, Nat.reduceLT, Scd, encT, hwT, selS, erT, scT, Scd, esT, eq_true hc1], by simp only [hgT, ↓w_gt, ↓v_gf, ↓v_gu, ↓reduceIte, reduceCtorEq, Nat.reduceAdd, Nat.reduceEqDiff, Nat.reduceLeDiff, Nat.reduceSub, Nat.reduceMul, Nat.reduceLT, Scd, encT, hwT, selS, erT, scT, Scd, esT, eq_true hc1]⟩ (K.spec_l3SameTexts_L0 (p0, p1, 0) (.inl r11) h_s10 _ ?_ ?_)
      · intro v hv; cases hv
      · intro r' hr' env st hy
        cases hr'
        simp only [hgT, ↓w_gt, ↓v_gf, ↓v_gu, ↓reduceIte, reduceCtorEq, Nat.reduceAdd, Nat.reduceEqDiff, Nat.reduceLeDiff, Nat.reduceSub, Nat.reduceMul, Nat.reduceLT, Scd, encT]
        obtain rfl := Option.some.inj h
        exact hy
    · dsimp only at h
      refine SemF.loop rfl ?_
      refine SemL.weak (sel := []) ⟨by simp only [hgT, ↓w_gt, ↓v_gf, ↓v_gu, ↓reduceIte, reduceCtorEq, Nat.reduceAdd, Nat.reduceEqDiff, Nat.reduceLeDiff, Nat.reduceSub, Nat.reduceMul, Nat.reduceLT, Scd, encT, hwT, selS, erT, eq_true hc1], by decide, by decide, by simp only [hgT, ↓w_gt, ↓v_gf, ↓v_gu, ↓reduceIte, reduceCtorEq, Nat.reduceAdd, Nat.reduceEqDiff, Nat.reduceLeDiff, Nat.reduceSub, Nat.reduceMul, Nat.reduceLT, Scd, encT, hwT, selS, erT, subR, eq_true hc1], by simp only [hgT, ↓w_gt, ↓v_gf, ↓v_gu, ↓reduceIte, reduceCtorEq, Nat.reduceAdd, Nat.reduceEqDiff, Nat.reduceLeDiff, Nat.reduceSub, Nat.reduceMul, Nat.reduceLT, Scd, encT, hwT, selS, erT, scT, Scd, esT, eq_true hc1], by simp only [hgT, ↓w_gt, ↓v_gf, ↓v_gu, ↓reduceIte, reduceCtorEq, Nat.reduceAdd, Nat.reduceEqDiff, Nat.reduceLeDiff, Nat.reduceSub, Nat.reduceMul, Nat.reduceLT, Scd, encT, hwT, selS, erT, scT, Scd, esT, eq_true hc1]⟩ (K.spec_l3SameTexts_L0 (p0, p1, 0) (.inr v12) h_s10 _ ?_ ?_)
      rotate_left
      · intro r' hr'; cases hr'
      intro v hv env st sel hw
      cases hv
      simp only [hgT, ↓w_gt, ↓v_gf, ↓v_gu, ↓reduceIte, reduceCtorEq, Nat.reduceAdd, Nat.reduceEqDiff, Nat.reduceLeDiff, Nat.reduceSub, Nat.reduceMul, Nat.reduceLT, Scd, encT]
      first | refine SemF.weak hw ?_ | refine SemL.weak hw ?_
      refine SemF.seq rfl ?_
      refine SemF.reg true rfl ?_
      try simp only [hgT, ↓w_gt, ↓v_gf, ↓v_gu, ↓reduceIte, reduceCtorEq, Nat.reduceAdd, Nat.reduceEqDiff, Nat.reduceLeDiff, Nat.reduceSub, Nat.reduceMul, Nat.reduceLT, Scd, encT, eq_true hc1]; (repeat refine fun (_ : _ ≤ lim) => ?_)
      refine SemF.ret rfl ?_
      try simp only [hgT, ↓w_gt, ↓v_gf, ↓v_gu, ↓reduceIte, reduceCtorEq, Nat.reduceAdd, Nat.reduceEqDiff, Nat.reduceLeDiff, Nat.reduceSub, Nat.reduceMul, Nat.reduceLT, Scd, encT, eq_true hc1]; (repeat refine fun (_ : _ ≤ lim) => ?_)
      obtain rfl := Option.some.inj h
      simp only [hgT, ↓w_gt, ↓v_gf, ↓v_gu, ↓reduceIte, reduceCtorEq, Nat.reduceAdd, Nat.reduceEqDiff, Nat.reduceLeDiff, Nat.reduceSub, Nat.reduceMul, Nat.reduceLT, Scd, encT, RetP_def, eq_true hc1]
  · rw [if_neg hc1] at h
    refine SemF.cond rfl ?_
    simp only [hgT, ↓w_gt, ↓v_gf, ↓v_gu, ↓reduceIte, reduceCtorEq, Nat.reduceAdd, Nat.reduceEqDiff, Nat.reduceLeDiff, Nat.reduceSub, Nat.reduceMul, Nat.reduceLT, Scd, encT, eq_false hc1]
    refine SemF.seq rfl ?_
    refine SemF.reg true rfl ?_
    try simp only [hgT, ↓w_gt, ↓v_gf, ↓v_gu, ↓reduceIte, reduceCtorEq, Nat.reduceAdd, Nat.reduceEqDiff, Nat.reduceLeDiff, Nat.reduceSub, Nat.reduceMul, Nat.reduceLT, Scd, encT, eq_false hc1]; (repeat refine fun (_ : _ ≤ lim) => ?_)
    refine SemF.ret rfl ?_
    try simp only [hgT, ↓w_gt, ↓v_gf, ↓v_gu, ↓reduceIte, reduceCtorEq, Nat.reduceAdd, Nat.reduceEqDiff, Nat.reduceLeDiff, Nat.reduceSub, Nat.reduceMul, Nat.reduceLT, Scd, encT, eq_false hc1]; (repeat refine fun (_ : _ ≤ lim) => ?_)
    obtain rfl := Option.some.inj h
    simp only [hgT, ↓w_gt, ↓v_gf, ↓v_gu, ↓reduceIte, reduceCtorEq, Nat.reduceAdd, Nat.reduceEqDiff, Nat.reduceLeDiff, Nat.reduceSub, Nat.reduceMul, Nat.reduceLT, Scd, encT, RetP_def, eq_false hc1]
end K
end W
