import Derived.Test.YtnhdobhfebiggaaEPrf1
namespace W
set_option linter.unusedSimpArgs false
set_option linter.unusedVariables false
open Go HL S
open Nat (reduceAdd reduceEqDiff reduceLeDiff reduceSub reduceMul reduceLT)
set_option linter.unusedVariables false
set_option maxRecDepth 100000
set_option maxHeartbeats 4000000
namespace K
theorem impl_SameExp_all : (∀ (x : (Exp × Exp)) (r : Bool), M.impl_SameExp x = some r → HCp P F.impl_SameExp [(Exp.enc x.1), (Exp.enc x.2)] (HV.bool r)) ∧
  (∀ (x : ((List Alt) × (List Alt))) (r : Bool), M.slices_EqualFunc_impl_Alt_at_sameAlt x = some r → HCp P F.slices_EqualFunc_impl_Alt [(.sl (List.map Alt.enc x.1)), (.sl (List.map Alt.enc x.2)), (.fn F.impl_sameAlt [] [])] (HV.bool r)) ∧
  (∀ (x : ((List Alt) × (List Alt) × Int)) (out : (Sum Bool Unit)), M.slices_EqualFunc_impl_Alt_at_sameAlt_L0 x = some out → ∀ Q : HExit → Env → St → Prop, (∀ v, out = .inr v → ∀ env st sel, Weak 0 sel [] [] env st → Q (.exit 0) env st) → (∀ r, out = .inl r → ∀ env st, RetP [(6, none)] (HV.bool r) env st → Q .ret env st) → SemL P H.slices_EqualFunc_impl_Alt.ntmps 0 H.slices_EqualFunc_impl_Alt_l5 [(1, (.sl (List.map Alt.enc x.1))), (2, (.fn F.impl_sameAlt [] [])), (15, (.sl (List.map Alt.enc x.2.1))), (16, (.int .i64 ((x.2.1.length : Nat) : Int))), (17, (.int .i64 x.2.2))] [] Q) ∧
  (∀ (x : (Alt × Alt)) (r : Bool), M.impl_sameAlt x = some r → HCp P F.impl_sameAlt [(Alt.enc x.1), (Alt.enc x.2)] (HV.bool r)) ∧
  (∀ (x : ((List Dec) × (List Dec))) (r : Bool), M.slices_EqualFunc_impl_Dec_at_sameDec x = some r → HCp P F.slices_EqualFunc_impl_Dec [(.sl (List.map Dec.enc x.1)), (.sl (List.map Dec.enc x.2)), (.fn F.impl_sameDec [] [])] (HV.bool r)) ∧
  (∀ (x : ((List Dec) × (List Dec) × Int)) (out : (Sum Bool Unit)), M.slices_EqualFunc_impl_Dec_at_sameDec_L0 x = some out → ∀ Q : HExit → Env → St → Prop, (∀ v, out = .inr v → ∀ env st sel, Weak 0 sel [] [] env st → Q (.exit 0) env st) → (∀ r, out = .inl r → ∀ env st, RetP [(6, none)] (HV.bool r) env st → Q .ret env st) → SemL P H.slices_EqualFunc_impl_Dec.ntmps 0 H.slices_EqualFunc_impl_Dec_l5 [(1, (.sl (List.map Dec.enc x.1))), (2, (.fn F.impl_sameDec [] [])), (15, (.sl (List.map Dec.enc x.2.1))), (16, (.int .i64 ((x.2.1.length : Nat) : Int))), (17, (.int .i64 x.2.2))] [] Q) ∧
  (∀ (x : (Dec × Dec)) (r : Bool), M.impl_sameDec x = some r → HCp P F.impl_sameDec [(Dec.enc x.1), (Dec.enc x.2)] (HV.bool r)) ∧
  (∀ (x : ((List Exp) × (List Exp))) (r : Bool), M.slices_EqualFunc_impl_Exp_at_SameExp x = some r → HCp P F.slices_EqualFunc_impl_Exp [(.sl (List.map Exp.enc x.1)), (.sl (List.map Exp.enc x.2)), (.fn F.impl_SameExp [] [])] (HV.bool r)) ∧
  (∀ (x : ((List Exp) × (List Exp) × Int)) (out : (Sum Bool Unit)), M.slices_EqualFunc_impl_Exp_at_SameExp_L0 x = some out → ∀ Q : HExit → Env → St → Prop, (∀ v, out = .inr v → ∀ env st sel, Weak 0 sel [] [] env st → Q (.exit 0) env st) → (∀ r, out = .inl r → ∀ env st, RetP [(6, none)] (HV.bool r) env st → Q .ret env st) → SemL P H.slices_EqualFunc_impl_Exp.ntmps 0 H.slices_EqualFunc_impl_Exp_l5 [(1, (.sl (List.map Exp.enc x.1))), (2, (.fn F.impl_SameExp [] [])), (15, (.sl (List.map Exp.enc x.2.1))), (16, (.int .i64 ((x.2.1.length : Nat) : Int))), (17, (.int .i64 x.2.2))] [] Q) := by
  refine M.impl_SameExp.mutual_partial_correctness (motive_1 := fun x r => HCp P F.impl_SameExp [(Exp.enc x.1), (Exp.enc x.2)] (HV.bool r)) (motive_2 := fun x r => HCp P F.slices_EqualFunc_impl_Alt [(.sl (List.map Alt.enc x.1)), (.sl (List.map Alt.enc x.2)), (.fn F.impl_sameAlt [] [])] (HV.bool r)) (motive_3 := fun x out => ∀ Q : HExit → Env → St → Prop, (∀ v, out = .inr v → ∀ env st sel, Weak 0 sel [] [] env st → Q (.exit 0) env st) → (∀ r, out = .inl r → ∀ env st, RetP [(6, none)] (HV.bool r) env st → Q .ret env st) → SemL P H.slices_EqualFunc_impl_Alt.ntmps 0 H.slices_EqualFunc_impl_Alt_l5 [(1, (.sl (List.map Alt.enc x.1))), (2, (.fn F.impl_sameAlt [] [])), (15, (.sl (List.map Alt.enc x.2.1))), (16, (.int .i64 ((x.2.1.length : Nat) : Int))), (17, (.int .i64 x.2.2))] [] Q) (motive_4 := fun x r => HCp P F.impl_sameAlt [(Alt.enc x.1), (Alt.enc x.2)] (HV.bool r)) (motive_5 := fun x r => HCp P F.slices_EqualFunc_impl_Dec [(.sl (List.map Dec.enc x.1)), (.sl (List.map Dec.enc x.2)), (.fn F.impl_sameDec [] [])] (HV.bool r)) (motive_6 := fun x out => ∀ Q : HExit → Env → St → Prop, (∀ v, out = .inr v → ∀ env st sel, Weak 0 sel [] [] env st → Q (.exit 0) env st) → (∀ r, out = .inl r → ∀ env st, RetP [(6, none)] (HV.bool r) env st → Q .ret env st) → SemL P H.slices_EqualFunc_impl_Dec.ntmps 0 H.slices_EqualFunc_impl_Dec_l5 [(1, (.sl (List.map Dec.enc x.1))), (2, (.fn F.impl_sameDec [] [])), (15, (.sl (List.map Dec.enc x.2.1))), (16, (.int .i64 ((x.2.1.length : Nat) : Int))), (17, (.int .i64 x.2.2))] [] Q) (motive_7 := fun x r => HCp P F.impl_sameDec [(Dec.enc x.1), (Dec.enc x.2)] (HV.bool r)) (motive_8 := fun x r => HCp P F.slices_EqualFunc_impl_Exp [(.sl (List.map Exp.enc x.1)), (.sl (List.map Exp.enc x.2)), (.fn F.impl_SameExp [] [])] (HV.bool r)) (motive_9 := fun x out => ∀ Q : HExit → Env → St → Prop, (∀ v, out = .inr v → ∀ env st sel, Weak 0 sel [] [] env st → Q (.exit 0) env st) → (∀ r, out = .inl r → ∀ env st, RetP [(6, none)] (HV.bool r) env st → Q .ret env st) → SemL P H.slices_EqualFunc_impl_Exp.ntmps 0 H.slices_EqualFunc_impl_Exp_l5 [(1, (.sl (List.map Exp.enc x.1))), (2, (.fn F.impl_SameExp [] [])), (15, (.sl (List.map Exp.enc x.2.1))), (16, (.int .i64 ((x.2.1.length : Nat) : Int))), (17, (.int .i64 x.2.2))] [] Q) ?_ ?_ ?_ ?_ ?_ ?_ ?_ ?_ ?_
  · exact fun f_slices_EqualFunc_impl_Alt_at_sameAlt f_slices_EqualFunc_impl_Dec_at_sameDec f_slices_EqualFunc_impl_Exp_at_SameExp ih_slices_EqualFunc_impl_Alt_at_sameAlt ih_slices_EqualFunc_impl_Dec_at_sameDec ih_slices_EqualFunc_impl_Exp_at_SameExp x r h => K.impl_SameExp_step f_slices_EqualFunc_impl_Alt_at_sameAlt f_slices_EqualFunc_impl_Dec_at_sameDec f_slices_EqualFunc_impl_Exp_at_SameExp ih_slices_EqualFunc_impl_Alt_at_sameAlt ih_slices_EqualFunc_impl_Dec_at_sameDec ih_slices_EqualFunc_impl_Exp_at_SameExp x r h
  · exact fun f_slices_EqualFunc_impl_Alt_at_sameAlt_L0 ih_slices_EqualFunc_impl_Alt_at_sameAlt_L0 x r h => K.slices_EqualFunc_impl_Alt_at_sameAlt_step f_slices_EqualFunc_impl_Alt_at_sameAlt_L0 ih_slices_EqualFunc_impl_Alt_at_sameAlt_L0 x r h
  · exact fun f_slices_EqualFunc_impl_Alt_at_sameAlt_L0 f_impl_sameAlt ih_slices_EqualFunc_impl_Alt_at_sameAlt_L0 ih_impl_sameAlt x out h => K.slices_EqualFunc_impl_Alt_at_sameAlt_L0_step f_slices_EqualFunc_impl_Alt_at_sameAlt_L0 f_impl_sameAlt ih_slices_EqualFunc_impl_Alt_at_sameAlt_L0 ih_impl_sameAlt x out h
  · exact fun f_impl_SameExp ih_impl_SameExp x r h => K.impl_sameAlt_step f_impl_SameExp ih_impl_SameExp x r h
  · exact fun f_slices_EqualFunc_impl_Dec_at_sameDec_L0 ih_slices_EqualFunc_impl_Dec_at_sameDec_L0 x r h => K.slices_EqualFunc_impl_Dec_at_sameDec_step f_slices_EqualFunc_impl_Dec_at_sameDec_L0 ih_slices_EqualFunc_impl_Dec_at_sameDec_L0 x r h
  · exact fun f_slices_EqualFunc_impl_Dec_at_sameDec_L0 f_impl_sameDec ih_slices_EqualFunc_impl_Dec_at_sameDec_L0 ih_impl_sameDec x out h => K.slices_EqualFunc_impl_Dec_at_sameDec_L0_step f_slices_EqualFunc_impl_Dec_at_sameDec_L0 f_impl_sameDec ih_slices_EqualFunc_impl_Dec_at_sameDec_L0 ih_impl_sameDec x out h
  · exact fun f_impl_SameExp f_slices_EqualFunc_impl_Dec_at_sameDec ih_impl_SameExp ih_slices_EqualFunc_impl_Dec_at_sameDec x r h => K.impl_sameDec_step f_impl_SameExp f_slices_EqualFunc_impl_Dec_at_sameDec ih_impl_SameExp ih_slices_EqualFunc_impl_Dec_at_sameDec x r h
  · exact fun f_slices_EqualFunc_impl_Exp_at_SameExp_L0 ih_slices_EqualFunc_impl_Exp_at_SameExp_L0 x r h => K.slices_EqualFunc_impl_Exp_at_SameExp_step f_slices_EqualFunc_impl_Exp_at_SameExp_L0 ih_slices_EqualFunc_impl_Exp_at_SameExp_L0 x r h
  · exact fun f_impl_SameExp f_slices_EqualFunc_impl_Exp_at_SameExp_L0 ih_impl_SameExp ih_slices_EqualFunc_impl_Exp_at_SameExp_L0 x out h => K.slices_EqualFunc_impl_Exp_at_SameExp_L0_step f_impl_SameExp f_slices_EqualFunc_impl_Exp_at_SameExp_L0 ih_impl_SameExp ih_slices_EqualFunc_impl_Exp_at_SameExp_L0 x out h
theorem impl_SameExp : (∀ (x : (Exp × Exp)) (r : Bool), M.impl_SameExp x = some r → HCp P F.impl_SameExp [(Exp.enc x.1), (Exp.enc x.2)] (HV.bool r)) := K.impl_SameExp_all.1
theorem slices_EqualFunc_impl_Alt_at_sameAlt : (∀ (x : ((List Alt) × (List Alt))) (r : Bool), M.slices_EqualFunc_impl_Alt_at_sameAlt x = some r → HCp P F.slices_EqualFunc_impl_Alt [(.sl (List.map Alt.enc x.1)), (.sl (List.map Alt.enc x.2)), (.fn F.impl_sameAlt [] [])] (HV.bool r)) := K.impl_SameExp_all.2.1
theorem slices_EqualFunc_impl_Alt_at_sameAlt_L0 : (∀ (x : ((List Alt) × (List Alt) × Int)) (out : (Sum Bool Unit)), M.slices_EqualFunc_impl_Alt_at_sameAlt_L0 x = some out → ∀ Q : HExit → Env → St → Prop, (∀ v, out = .inr v → ∀ env st sel, Weak 0 sel [] [] env st → Q (.exit 0) env st) → (∀ r, out = .inl r → ∀ env st, RetP [(6, none)] (HV.bool r) env st → Q .ret env st) → SemL P H.slices_EqualFunc_impl_Alt.ntmps 0 H.slices_EqualFunc_impl_Alt_l5 [(1, (.sl (List.map Alt.enc x.1))), (2, (.fn F.impl_sameAlt [] [])), (15, (.sl (List.map Alt.enc x.2.1))), (16, (.int .i64 ((x.2.1.length : Nat) : Int))), (17, (.int .i64 x.2.2))] [] Q) := K.impl_SameExp_all.2.2.1
theorem impl_sameAlt : (∀ (x : (Alt × Alt)) (r : Bool), M.impl_sameAlt x = some r → HCp P F.impl_sameAlt [(Alt.enc x.1), (Alt.enc x.2)] (HV.bool r)) := K.impl_SameExp_all.2.2.2.1
theorem slices_EqualFunc_impl_Dec_at_sameDec : (∀ (x : ((List Dec) × (List Dec))) (r : Bool), M.slices_EqualFunc_impl_Dec_at_sameDec x = some r → HCp P F.slices_EqualFunc_impl_Dec [(.sl (List.map Dec.enc x.1)), (.sl (List.map Dec.enc x.2)), (.fn F.impl_sameDec [] [])] (HV.bool r)) := K.impl_SameExp_all.2.2.2.2.1
theorem slices_EqualFunc_impl_Dec_at_sameDec_L0 : (∀ (x : ((List Dec) × (List Dec) × Int)) (out : (Sum Bool Unit)), M.slices_EqualFunc_impl_Dec_at_sameDec_L0 x = some out → ∀ Q : HExit → Env → St → Prop, (∀ v, out = .inr v → ∀ env st sel, Weak 0 sel [] [] env st → Q (.exit 0) env st) → (∀ r, out = .inl r → ∀ env st, RetP [(6, none)] (HV.bool r) env st → Q .ret env st) → SemL P H.slices_EqualFunc_impl_Dec.ntmps 0 H.slices_EqualFunc_impl_Dec_l5 [(1, (.sl (List.map Dec.enc x.1))), (2, (.fn F.impl_sameDec [] [])), (15, (.sl (List.map Dec.enc x.2.1))), (16, (.int .i64 ((x.2.1.length : Nat) : Int))), (17, (.int .i64 x.2.2))] [] Q) := K.impl_SameExp_all.2.2.2.2.2.1
theorem impl_sameDec : (∀ (x : (Dec × Dec)) (r : Bool), M.impl_sameDec x = some r → HCp P F.impl_sameDec [(Dec.enc x.1), (Dec.enc x.2)] (HV.bool r)) := K.impl_SameExp_all.2.2.2.2.2.2.1
theorem slices_EqualFunc_impl_Exp_at_SameExp : (∀ (x : ((List Exp) × (List Exp))) (r : Bool), M.slices_EqualFunc_impl_Exp_at_SameExp x = some r → HCp P F.slices_EqualFunc_impl_Exp [(.sl (List.map Exp.enc x.1)), (.sl (List.map Exp.enc x.2)), (.fn F.impl_SameExp [] [])] (HV.bool r)) := K.impl_SameExp_all.2.2.2.2.2.2.2.1
theorem slices_EqualFunc_impl_Exp_at_SameExp_L0 : (∀ (x : ((List Exp) × (List Exp) × Int)) (out : (Sum Bool Unit)), M.slices_EqualFunc_impl_Exp_at_SameExp_L0 x = some out → ∀ Q : HExit → Env → St → Prop, (∀ v, out = .inr v → ∀ env st sel, Weak 0 sel [] [] env st → Q (.exit 0) env st) → (∀ r, out = .inl r → ∀ env st, RetP [(6, none)] (HV.bool r) env st → Q .ret env st) → SemL P H.slices_EqualFunc_impl_Exp.ntmps 0 H.slices_EqualFunc_impl_Exp_l5 [(1, (.sl (List.map Exp.enc x.1))), (2, (.fn F.impl_SameExp [] [])), (15, (.sl (List.map Exp.enc x.2.1))), (16, (.int .i64 ((x.2.1.length : Nat) : Int))), (17, (.int .i64 x.2.2))] [] Q) := K.impl_SameExp_all.2.2.2.2.2.2.2.2
theorem impl_SameTy_step (f_slices_EqualFunc_impl_Ty_at_SameTy : ((List Ty) × (List Ty)) → Option Bool) (ih_slices_EqualFunc_impl_Ty_at_SameTy : ∀ (x : ((List Ty) × (List Ty))) (r : Bool), f_slices_EqualFunc_impl_Ty_at_SameTy x = some r → HCp P F.slices_EqualFunc_impl_Ty [(.sl (List.map Ty.enc x.1)), (.sl (List.map Ty.enc x.2)), (.fn F.impl_SameTy [] [])] (HV.bool r)) (x : (Ty × Ty)) (r : Bool) (h : (if x.1.K = x.2.K then (if x.1.S = x.2.S then (if x.1.N = x.2.N then (f_slices_EqualFunc_impl_Ty_at_SameTy (x.1.L, x.2.L) >>= fun r4 =>
    some r4) else
    some false) else
    some false) else
    some false) = some r) : HCp P F.impl_SameTy [(Ty.enc x.1), (Ty.enc x.2)] (HV.bool r) := by
  obtain ⟨p0, p1⟩ := x
  try dsimp only at h
  refine HCp.mkF S.impl_SameTy (by simp [H.impl_SameTy]) (by simp only [scT, esT, and_self, true_and, and_true]) ?_
  simp only [gE, ↓gT, ↓reduceIte, reduceCtorEq, reduceAdd, reduceEqDiff, reduceLeDiff, reduceLT, H.impl_SameTy]
  refine SemF.seq rfl ?_
  refine SemF.reg true rfl ?_
  try simp only [gE, ↓gT, ↓reduceIte, reduceCtorEq, reduceAdd, reduceEqDiff, reduceLeDiff, reduceLT]; (repeat intro (_ : _ ≤ lim))
  refine SemF.seq rfl ?_
  refine SemF.reg true rfl ?_
  try simp only [gE, ↓gT, ↓reduceIte, reduceCtorEq, reduceAdd, reduceEqDiff, reduceLeDiff, reduceLT]; (repeat intro (_ : _ ≤ lim))
  by_cases hc1 : p0.K = p1.K
  · rw [if_pos hc1] at h
    try simp only [gE, ↓gT, ↓reduceIte, reduceCtorEq, reduceAdd, reduceEqDiff, reduceLeDiff, reduceLT, eq_true hc1]; (repeat intro (_ : _ ≤ lim))
    by_cases hc2 : p0.S = p1.S
    · rw [if_pos hc2] at h
      try simp only [gE, ↓gT, ↓reduceIte, reduceCtorEq, reduceAdd, reduceEqDiff, reduceLeDiff, reduceLT, eq_true hc1, eq_true hc2]; (repeat intro (_ : _ ≤ lim))
      by_cases hc3 : p0.N = p1.N
      · rw [if_pos hc3] at h
        try simp only [gE, ↓gT, ↓reduceIte, reduceCtorEq, reduceAdd, reduceEqDiff, reduceLeDiff, reduceLT, eq_true hc1, eq_true hc2, eq_true hc3]; (repeat intro (_ : _ ≤ lim))
        obtain ⟨r4, h_r4, h⟩ := bs h
        refine HCp.callE (ih_slices_EqualFunc_impl_Ty_at_SameTy (p0.L, p1.L) r4 h_r4) (by simp only [gE, ↓gT, ↓reduceIte, reduceCtorEq, reduceAdd, reduceEqDiff, reduceLeDiff, reduceLT, eq_true hc1, eq_true hc2, eq_true hc3]) (by simp only [scT, esT, and_self, true_and, and_true]) (by simp only [scT, esT, and_self, true_and, and_true]) ?_
        try simp only [gE, ↓gT, ↓reduceIte, reduceCtorEq, reduceAdd, reduceEqDiff, reduceLeDiff, reduceLT, eq_true hc1, eq_true hc2, eq_true hc3]; (repeat intro (_ : _ ≤ lim))
        refine SemF.ret rfl ?_
        try simp only [gE, ↓gT, ↓reduceIte, reduceCtorEq, reduceAdd, reduceEqDiff, reduceLeDiff, reduceLT, eq_true hc1, eq_true hc2, eq_true hc3]; (repeat intro (_ : _ ≤ lim))
        obtain rfl := Option.some.inj h
        simp only [gE, ↓gT, ↓reduceIte, reduceCtorEq, reduceAdd, reduceEqDiff, reduceLeDiff, reduceLT, RetP_def, eq_true hc1, eq_true hc2, eq_true hc3]
      · rw [if_neg hc3] at h
        try simp only [gE, ↓gT, ↓reduceIte, reduceCtorEq, reduceAdd, reduceEqDiff, reduceLeDiff, reduceLT, eq_true hc1, eq_true hc2, eq_false hc3]; (repeat intro (_ : _ ≤ lim))
        refine SemF.ret rfl ?_
        try simp only [gE, ↓gT, ↓reduceIte, reduceCtorEq, reduceAdd, reduceEqDiff, reduceLeDiff, reduceLT, eq_true hc1, eq_true hc2, eq_false hc3]; (repeat intro (_ : _ ≤ lim))
        obtain rfl := Option.some.inj h
        simp only [gE, ↓gT, ↓reduceIte, reduceCtorEq, reduceAdd, reduceEqDiff, reduceLeDiff, reduceLT, RetP_def, eq_true hc1, eq_true hc2, eq_false hc3]
    · rw [if_neg hc2] at h
      try simp only [gE, ↓gT, ↓reduceIte, reduceCtorEq, reduceAdd, reduceEqDiff, reduceLeDiff, reduceLT, eq_true hc1, eq_false hc2]; (repeat intro (_ : _ ≤ lim))
      refine SemF.ret rfl ?_
      try simp only [gE, ↓gT, ↓reduceIte, reduceCtorEq, reduceAdd, reduceEqDiff, reduceLeDiff, reduceLT, eq_true hc1, eq_false hc2]; (repeat intro (_ : _ ≤ lim))
      obtain rfl := Option.some.inj h
      simp only [gE, ↓gT, ↓reduceIte, reduceCtorEq, reduceAdd, reduceEqDiff, reduceLeDiff, reduceLT, RetP_def, eq_true hc1, eq_false hc2]
  · rw [if_neg hc1] at h
    try simp only [gE, ↓gT, ↓reduceIte, reduceCtorEq, reduceAdd, reduceEqDiff, reduceLeDiff, reduceLT, eq_false hc1]; (repeat intro (_ : _ ≤ lim))
    refine SemF.ret rfl ?_
    try simp only [gE, ↓gT, ↓reduceIte, reduceCtorEq, reduceAdd, reduceEqDiff, reduceLeDiff, reduceLT, eq_false hc1]; (repeat intro (_ : _ ≤ lim))
    obtain rfl := Option.some.inj h
    simp only [gE, ↓gT, ↓reduceIte, reduceCtorEq, reduceAdd, reduceEqDiff, reduceLeDiff, reduceLT, RetP_def, eq_false hc1]
theorem slices_EqualFunc_impl_Ty_at_SameTy_step (f_slices_EqualFunc_impl_Ty_at_SameTy_L0 : ((List Ty) × (List Ty) × Int) → Option (Sum Bool Unit)) (ih_slices_EqualFunc_impl_Ty_at_SameTy_L0 : ∀ (x : ((List Ty) × (List Ty) × Int)) (out : (Sum Bool Unit)), f_slices_EqualFunc_impl_Ty_at_SameTy_L0 x = some out → ∀ Q : HExit → Env → St → Prop, (∀ v, out = .inr v → ∀ env st sel, Weak 0 sel [] [] env st → Q (.exit 0) env st) → (∀ r, out = .inl r → ∀ env st, RetP [(6, none)] (HV.bool r) env st → Q .ret env st) → SemL P H.slices_EqualFunc_impl_Ty.ntmps 0 H.slices_EqualFunc_impl_Ty_l5 [(1, (.sl (List.map Ty.enc x.1))), (2, (.fn F.impl_SameTy [] [])), (15, (.sl (List.map Ty.enc x.2.1))), (16, (.int .i64 ((x.2.1.length : Nat) : Int))), (17, (.int .i64 x.2.2))] [] Q) (x : ((List Ty) × (List Ty))) (r : Bool) (h : (if ((x.1.length : Nat) : Int) = ((x.2.length : Nat) : Int) then (f_slices_EqualFunc_impl_Ty_at_SameTy_L0 (x.2, x.1, 0) >>= fun s12 =>
    (match s12 with
    | .inl r13 => some r13
    | .inr v14 => some true)) else
    some false) = some r) : HCp P F.slices_EqualFunc_impl_Ty [(.sl (List.map Ty.enc x.1)), (.sl (List.map Ty.enc x.2)), (.fn F.impl_SameTy [] [])] (HV.bool r) := by
  obtain ⟨p0, p1⟩ := x
  try dsimp only at h
  refine HCp.mkF S.slices_EqualFunc_impl_Ty (by simp [H.slices_EqualFunc_impl_Ty]) (by simp only [scT, esT, and_self, true_and, and_true]) ?_
  simp only [gE, ↓gT, ↓reduceIte, reduceCtorEq, reduceAdd, reduceEqDiff, reduceLeDiff, reduceLT, H.slices_EqualFunc_impl_Ty]
  refine SemF.seq rfl ?_
  refine SemF.reg true rfl ?_
  try simp only [gE, ↓gT, ↓reduceIte, reduceCtorEq, reduceAdd, reduceEqDiff, reduceLeDiff, reduceLT]; (repeat intro (_ : _ ≤ lim))
  refine SemF.seq rfl ?_
  refine SemF.seq rfl ?_
  refine SemF.reg true rfl ?_
  try simp only [gE, ↓gT, ↓reduceIte, reduceCtorEq, reduceAdd, reduceEqDiff, reduceLeDiff, reduceLT]; (repeat intro (_ : _ ≤ lim))
  (repeat intro (_ : _ ≤ lim))
  (repeat intro (_ : _ ≤ lim))
  by_cases hc1 : ((p0.length : Nat) : Int) = ((p1.length : Nat) : Int)
  · rw [if_pos hc1] at h
    refine SemF.cond rfl ?_
    simp only [gE, ↓gT, ↓reduceIte, reduceCtorEq, reduceAdd, reduceEqDiff, reduceLeDiff, reduceLT, eq_true hc1]
    refine SemF.skip rfl ?_
    simp only [gE, ↓gT, ↓reduceIte, reduceCtorEq, reduceAdd, reduceEqDiff, reduceLeDiff, reduceLT, eq_true hc1]
    refine SemF.seq rfl ?_
    refine SemF.seq rfl ?_
    refine SemF.reg true rfl ?_
    try simp only [gE, ↓gT, ↓reduceIte, reduceCtorEq, reduceAdd, reduceEqDiff, reduceLeDiff, reduceLT, eq_true hc1]; (repeat intro (_ : _ ≤ lim))
    (repeat intro (_ : _ ≤ lim))
    refine SemF.block rfl ?_
    obtain ⟨s12, h_s12, h⟩ := bs h
    rcases s12 with r13 | v14
    · dsimp only at h
      refine SemF.loop rfl ?_
      refine SemL.weak (sel := []) ⟨by simp only [gE, ↓gT, ↓reduceIte, reduceCtorEq, reduceAdd, reduceEqDiff, reduceLeDiff, reduceLT, hwT, selS, erT, eq_true hc1], by decide, by decide, by simp only [gE, ↓gT, ↓reduceIte, reduceCtorEq, reduceAdd, reduceEqDiff, reduceLeDiff, reduceLT, hwT, selS, erT, subR, eq_true hc1], by simp only [gE, ↓gT, ↓reduceIte, reduceCtorEq, reduceAdd, reduceEqDiff, reduceLeDiff, reduceLT, hwT, selS, erT, scT, esT, eq_true hc1], by simp only [gE, ↓gT, ↓reduceIte, reduceCtorEq, reduceAdd, reduceEqDiff, reduceLeDiff, reduceLT, hwT, selS, erT, scT, esT, eq_true hc1]⟩ (ih_slices_EqualFunc_impl_Ty_at_SameTy_L0 (p1, p0, 0) (.inl r13) h_s12 _ ?_ ?_)
      · intro v hv; cases hv
      · intro r' hr' env st hy
        cases hr'
        simp only [gE, ↓gT, ↓reduceIte, reduceCtorEq, reduceAdd, reduceEqDiff, reduceLeDiff, reduceLT]
        obtain rfl := Option.some.inj h
        exact hy
    · dsimp only at h
      refine SemF.loop rfl ?_
      refine SemL.weak (sel := []) ⟨by simp only [gE, ↓gT, ↓reduceIte, reduceCtorEq, reduceAdd, reduceEqDiff, reduceLeDiff, reduceLT, hwT, selS, erT, eq_true hc1], by decide, by decide, by simp only [gE, ↓gT, ↓reduceIte, reduceCtorEq, reduceAdd, reduceEqDiff, reduceLeDiff, reduceLT, hwT, selS, erT, subR, eq_true hc1], by simp only [gE, ↓gT, ↓reduceIte, reduceCtorEq, reduceAdd, reduceEqDiff, reduceLeDiff, reduceLT, hwT, selS, erT, scT, esT, eq_true hc1], by simp only [gE, ↓gT, ↓reduceIte, reduceCtorEq, reduceAdd, reduceEqDiff, reduceLeDiff, reduceLT, hwT, selS, erT, scT, esT, eq_true hc1]⟩ (ih_slices_EqualFunc_impl_Ty_at_SameTy_L0 (p1, p0, 0) (.inr v14) h_s12 _ ?_ ?_)
      rotate_left
      · intro r' hr'; cases hr'
      intro v hv env st sel hw
      cases hv
      simp only [gE, ↓gT, ↓reduceIte, reduceCtorEq, reduceAdd, reduceEqDiff, reduceLeDiff, reduceLT]
      first | refine SemF.weak hw ?_ | refine SemL.weak hw ?_
      refine SemF.seq rfl ?_
      refine SemF.reg true rfl ?_
      try simp only [gE, ↓gT, ↓reduceIte, reduceCtorEq, reduceAdd, reduceEqDiff, reduceLeDiff, reduceLT, eq_true hc1]; (repeat intro (_ : _ ≤ lim))
      refine SemF.ret rfl ?_
      try simp only [gE, ↓gT, ↓reduceIte, reduceCtorEq, reduceAdd, reduceEqDiff, reduceLeDiff, reduceLT, eq_true hc1]; (repeat intro (_ : _ ≤ lim))
      obtain rfl := Option.some.inj h
      simp only [gE, ↓gT, ↓reduceIte, reduceCtorEq, reduceAdd, reduceEqDiff, reduceLeDiff, reduceLT, RetP_def, eq_true hc1]
  · rw [if_neg hc1] at h
    refine SemF.cond rfl ?_
    simp only [gE, ↓gT, ↓reduceIte, reduceCtorEq, reduceAdd, reduceEqDiff, reduceLeDiff, reduceLT, eq_false hc1]
    refine SemF.seq rfl ?_
    refine SemF.reg true rfl ?_
    try simp only [gE, ↓gT, ↓reduceIte, reduceCtorEq, reduceAdd, reduceEqDiff, reduceLeDiff, reduceLT, eq_false hc1]; (repeat intro (_ : _ ≤ lim))
    refine SemF.ret rfl ?_
    try simp only [gE, ↓gT, ↓reduceIte, reduceCtorEq, reduceAdd, reduceEqDiff, reduceLeDiff, reduceLT, eq_false hc1]; (repeat intro (_ : _ ≤ lim))
    obtain rfl := Option.some.inj h
    simp only [gE, ↓gT, ↓reduceIte, reduceCtorEq, reduceAdd, reduceEqDiff, reduceLeDiff, reduceLT, RetP_def, eq_false hc1]
theorem slices_EqualFunc_impl_Ty_at_SameTy_L0_step (f_impl_SameTy : (Ty × Ty) → Option Bool) (f_slices_EqualFunc_impl_Ty_at_SameTy_L0 : ((List Ty) × (List Ty) × Int) → Option (Sum Bool Unit)) (ih_impl_SameTy : ∀ (x : (Ty × Ty)) (r : Bool), f_impl_SameTy x = some r → HCp P F.impl_SameTy [(Ty.enc x.1), (Ty.enc x.2)] (HV.bool r)) (ih_slices_EqualFunc_impl_Ty_at_SameTy_L0 : ∀ (x : ((List Ty) × (List Ty) × Int)) (out : (Sum Bool Unit)), f_slices_EqualFunc_impl_Ty_at_SameTy_L0 x = some out → ∀ Q : HExit → Env → St → Prop, (∀ v, out = .inr v → ∀ env st sel, Weak 0 sel [] [] env st → Q (.exit 0) env st) → (∀ r, out = .inl r → ∀ env st, RetP [(6, none)] (HV.bool r) env st → Q .ret env st) → SemL P H.slices_EqualFunc_impl_Ty.ntmps 0 H.slices_EqualFunc_impl_Ty_l5 [(1, (.sl (List.map Ty.enc x.1))), (2, (.fn F.impl_SameTy [] [])), (15, (.sl (List.map Ty.enc x.2.1))), (16, (.int .i64 ((x.2.1.length : Nat) : Int))), (17, (.int .i64 x.2.2))] [] Q) (x : ((List Ty) × (List Ty) × Int)) (out : (Sum Bool Unit)) (h : (if x.2.2 < ((x.2.1.length : Nat) : Int) then (ix x.2.1 x.2.2 >>= fun e8 =>
    (ix x.1 x.2.2 >>= fun e9 =>
    (f_impl_SameTy (e8, e9) >>= fun r10 =>
    (if r10 = true then f_slices_EqualFunc_impl_Ty_at_SameTy_L0 (x.1, x.2.1, (IntKind.i64.wrap (x.2.2 + 1))) else
    some (.inl false))))) else
    some (.inr ())) = some out) : ∀ Q : HExit → Env → St → Prop, (∀ v, out = .inr v → ∀ env st sel, Weak 0 sel [] [] env st → Q (.exit 0) env st) → (∀ r, out = .inl r → ∀ env st, RetP [(6, none)] (HV.bool r) env st → Q .ret env st) → SemL P H.slices_EqualFunc_impl_Ty.ntmps 0 H.slices_EqualFunc_impl_Ty_l5 [(1, (.sl (List.map Ty.enc x.1))), (2, (.fn F.impl_SameTy [] [])), (15, (.sl (List.map Ty.enc x.2.1))), (16, (.int .i64 ((x.2.1.length : Nat) : Int))), (17, (.int .i64 x.2.2))] [] Q := by
  obtain ⟨p1, p0, t17_L0⟩ := x
  try dsimp only at h
  intro Q hx hr
  refine SemL.round ?_
  try dsimp only at hx
  refine SemF.seq rfl ?_
  refine SemF.reg true rfl ?_
  try simp only [gE, ↓gT, ↓reduceIte, reduceCtorEq, reduceAdd, reduceEqDiff, reduceLeDiff, reduceLT]; (repeat intro (_ : _ ≤ lim))
  refine SemF.seq rfl ?_
  by_cases hc7 : t17_L0 < ((p0.length : Nat) : Int)
  · rw [if_pos hc7] at h
    refine SemF.cond rfl ?_
    simp only [gE, ↓gT, ↓reduceIte, reduceCtorEq, reduceAdd, reduceEqDiff, reduceLeDiff, reduceLT, eq_true hc7]
    refine SemF.skip rfl ?_
    simp only [gE, ↓gT, ↓reduceIte, reduceCtorEq, reduceAdd, reduceEqDiff, reduceLeDiff, reduceLT, eq_true hc7]
    refine SemF.seq rfl ?_
    refine SemF.block rfl ?_
    refine SemF.seq rfl ?_
    refine SemF.reg true rfl ?_
    try simp only [gE, ↓gT, ↓reduceIte, reduceCtorEq, reduceAdd, reduceEqDiff, reduceLeDiff, reduceLT, eq_true hc7]; (repeat intro (_ : _ ≤ lim))
    obtain ⟨e8, h_e8, h⟩ := bs h
    have m_e8 := ixm (f := Ty.enc) (ix_get h_e8)
    try simp only [gE, ↓gT, ↓reduceIte, reduceCtorEq, reduceAdd, reduceEqDiff, reduceLeDiff, reduceLT, eq_true hc7, eq_true (ix_nn h_e8), m_e8]; (repeat intro (_ : _ ≤ lim))
    refine SemF.seq rfl ?_
    refine SemF.reg true rfl ?_
    try simp only [gE, ↓gT, ↓reduceIte, reduceCtorEq, reduceAdd, reduceEqDiff, reduceLeDiff, reduceLT, eq_true hc7, eq_true (ix_nn h_e8), m_e8]; (repeat intro (_ : _ ≤ lim))
    obtain ⟨e9, h_e9, h⟩ := bs h
    have m_e9 := ixm (f := Ty.enc) (ix_get h_e9)
    try simp only [gE, ↓gT, ↓reduceIte, reduceCtorEq, reduceAdd, reduceEqDiff, reduceLeDiff, reduceLT, eq_true hc7, eq_true (ix_nn h_e8), m_e8, eq_true (ix_nn h_e9), m_e9]; (repeat intro (_ : _ ≤ lim))
    refine SemF.seq rfl ?_
    refine SemF.reg true rfl ?_
    try simp only [gE, ↓gT, ↓reduceIte, reduceCtorEq, reduceAdd, reduceEqDiff, reduceLeDiff, reduceLT, eq_true hc7, eq_true (ix_nn h_e8), m_e8, eq_true (ix_nn h_e9), m_e9]; (repeat intro (_ : _ ≤ lim))
    obtain ⟨r10, h_r10, h⟩ := bs h
    refine HCp.callE (ih_impl_SameTy (e8, e9) r10 h_r10) (by simp only [gE, ↓gT, ↓reduceIte, reduceCtorEq, reduceAdd, reduceEqDiff, reduceLeDiff, reduceLT, eq_true hc7, eq_true (ix_nn h_e8), m_e8, eq_true (ix_nn h_e9), m_e9]) (by simp only [scT, esT, and_self, true_and, and_true]) (by simp only [scT, esT, and_self, true_and, and_true]) ?_
    try simp only [gE, ↓gT, ↓reduceIte, reduceCtorEq, reduceAdd, reduceEqDiff, reduceLeDiff, reduceLT, eq_true hc7, eq_true (ix_nn h_e8), m_e8, eq_true (ix_nn h_e9), m_e9]; (repeat intro (_ : _ ≤ lim))
    by_cases hc11 : r10 = true
    · rw [if_pos hc11] at h
      refine SemF.cond rfl ?_
      simp only [gE, ↓gT, ↓reduceIte, reduceCtorEq, reduceAdd, reduceEqDiff, reduceLeDiff, reduceLT, eq_true hc7, eq_true (ix_nn h_e8), m_e8, eq_true (ix_nn h_e9), m_e9, hc11]
      refine SemF.skip rfl ?_
      simp only [gE, ↓gT, ↓reduceIte, reduceCtorEq, reduceAdd, reduceEqDiff, reduceLeDiff, reduceLT, eq_true hc7, eq_true (ix_nn h_e8), m_e8, eq_true (ix_nn h_e9), m_e9, hc11]
      refine SemF.reg true rfl ?_
      try simp only [gE, ↓gT, ↓reduceIte, reduceCtorEq, reduceAdd, reduceEqDiff, reduceLeDiff, reduceLT, eq_true hc7, eq_true (ix_nn h_e8), m_e8, eq_true (ix_nn h_e9), m_e9, hc11]; (repeat intro (_ : _ ≤ lim))
      refine SemL.weak (sel := []) ⟨by simp only [gE, ↓gT, ↓reduceIte, reduceCtorEq, reduceAdd, reduceEqDiff, reduceLeDiff, reduceLT, hwT, selS, erT, eq_true hc7, eq_true (ix_nn h_e8), m_e8, eq_true (ix_nn h_e9), m_e9, hc11], by decide, by decide, by simp only [gE, ↓gT, ↓reduceIte, reduceCtorEq, reduceAdd, reduceEqDiff, reduceLeDiff, reduceLT, hwT, selS, erT, subR, eq_true hc7, eq_true (ix_nn h_e8), m_e8, eq_true (ix_nn h_e9), m_e9, hc11], by simp only [gE, ↓gT, ↓reduceIte, reduceCtorEq, reduceAdd, reduceEqDiff, reduceLeDiff, reduceLT, hwT, selS, erT, scT, esT, eq_true hc7, eq_true (ix_nn h_e8), m_e8, eq_true (ix_nn h_e9), m_e9, hc11], by simp only [gE, ↓gT, ↓reduceIte, reduceCtorEq, reduceAdd, reduceEqDiff, reduceLeDiff, reduceLT, hwT, selS, erT, scT, esT, eq_true hc7, eq_true (ix_nn h_e8), m_e8, eq_true (ix_nn h_e9), m_e9, hc11]⟩ (ih_slices_EqualFunc_impl_Ty_at_SameTy_L0 (p1, p0, (IntKind.i64.wrap (t17_L0 + 1))) out h Q hx hr)
    · rw [if_neg hc11] at h
      replace hc11 := eq_false_of_ne_true hc11
      refine SemF.cond rfl ?_
      simp only [gE, ↓gT, ↓reduceIte, reduceCtorEq, reduceAdd, reduceEqDiff, reduceLeDiff, reduceLT, eq_true hc7, eq_true (ix_nn h_e8), m_e8, eq_true (ix_nn h_e9), m_e9, hc11]
      refine SemF.seq rfl ?_
      refine SemF.reg true rfl ?_
      try simp only [gE, ↓gT, ↓reduceIte, reduceCtorEq, reduceAdd, reduceEqDiff, reduceLeDiff, reduceLT, eq_true hc7, eq_true (ix_nn h_e8), m_e8, eq_true (ix_nn h_e9), m_e9, hc11]; (repeat intro (_ : _ ≤ lim))
      refine SemF.ret rfl ?_
      try simp only [gE, ↓gT, ↓reduceIte, reduceCtorEq, reduceAdd, reduceEqDiff, reduceLeDiff, reduceLT, eq_true hc7, eq_true (ix_nn h_e8), m_e8, eq_true (ix_nn h_e9), m_e9, hc11]; (repeat intro (_ : _ ≤ lim))
      obtain rfl := Option.some.inj h
      refine hr _ rfl _ _ ?_
      simp only [gE, ↓gT, ↓reduceIte, reduceCtorEq, reduceAdd, reduceEqDiff, reduceLeDiff, reduceLT, RetP_def, eq_true hc7, eq_true (ix_nn h_e8), m_e8, eq_true (ix_nn h_e9), m_e9, hc11]
  · rw [if_neg hc7] at h
    refine SemF.cond rfl ?_
    simp only [gE, ↓gT, ↓reduceIte, reduceCtorEq, reduceAdd, reduceEqDiff, reduceLeDiff, reduceLT, eq_false hc7]
    refine SemF.exit rfl ?_
    simp only [gE, ↓gT, ↓reduceIte, reduceCtorEq, reduceAdd, reduceEqDiff, reduceLeDiff, reduceLT, eq_false hc7]
    obtain rfl := Option.some.inj h
    refine hx _ rfl _ _ [] ⟨by simp only [gE, ↓gT, ↓reduceIte, reduceCtorEq, reduceAdd, reduceEqDiff, reduceLeDiff, reduceLT, hwT, selS, erT, eq_false hc7], by decide, by decide, by simp only [gE, ↓gT, ↓reduceIte, reduceCtorEq, reduceAdd, reduceEqDiff, reduceLeDiff, reduceLT, hwT, selS, erT, subR, eq_false hc7], by simp only [gE, ↓gT, ↓reduceIte, reduceCtorEq, reduceAdd, reduceEqDiff, reduceLeDiff, reduceLT, hwT, selS, erT, scT, esT, eq_false hc7], by simp only [gE, ↓gT, ↓reduceIte, reduceCtorEq, reduceAdd, reduceEqDiff, reduceLeDiff, reduceLT, hwT, selS, erT, scT, esT, eq_false hc7]⟩
end K
end W
