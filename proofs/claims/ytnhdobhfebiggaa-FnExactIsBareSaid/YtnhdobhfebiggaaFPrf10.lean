import Derived.Test.YtnhdobhfebiggaaFPrf9
namespace W
set_option linter.unusedSimpArgs false
set_option linter.unusedVariables false
open Go HL S
open Nat (reduceAdd reduceEqDiff reduceLeDiff reduceSub reduceMul reduceLT)
set_option linter.unusedVariables false
set_option maxRecDepth 100000
set_option maxHeartbeats 4000000
namespace K
theorem laws_eqExpS_L0_step (f_laws_eqExp : (Exp × Exp) → Option Bool) (f_laws_eqExpS_L0 : ((List Exp) × (List Exp) × Int) → Option (Sum Bool Unit)) (ih_laws_eqExp : ∀ (x : (Exp × Exp)) (r : Bool), f_laws_eqExp x = some r → HCp P F.laws_eqExp [(Exp.enc x.1), (Exp.enc x.2)] (HV.bool r)) (ih_laws_eqExpS_L0 : ∀ (x : ((List Exp) × (List Exp) × Int)) (out : (Sum Bool Unit)), f_laws_eqExpS_L0 x = some out → ∀ Q : HExit → Env → St → Prop, (∀ v, out = .inr v → ∀ env st sel, Weak 0 sel [] [] env st → Q (.exit 0) env st) → (∀ r, out = .inl r → ∀ env st, RetP [(4, none)] (HV.bool r) env st → Q .ret env st) → SemL P H.laws_eqExpS.ntmps 0 H.laws_eqExpS_l5 [(0, (.sl (List.map Exp.enc x.1))), (1, (.sl (List.map Exp.enc x.2.1))), (5, (.int .i64 x.2.2))] [] Q) (x : ((List Exp) × (List Exp) × Int)) (out : (Sum Bool Unit)) (h : (if x.2.2 < ((x.1.length : Nat) : Int) then (ix x.1 x.2.2 >>= fun e8 =>
    (ix x.2.1 x.2.2 >>= fun e9 =>
    (f_laws_eqExp (e8, e9) >>= fun r10 =>
    (if r10 = true then f_laws_eqExpS_L0 (x.1, x.2.1, (IntKind.i64.wrap (x.2.2 + 1))) else
    some (.inl false))))) else
    some (.inr ())) = some out) : ∀ Q : HExit → Env → St → Prop, (∀ v, out = .inr v → ∀ env st sel, Weak 0 sel [] [] env st → Q (.exit 0) env st) → (∀ r, out = .inl r → ∀ env st, RetP [(4, none)] (HV.bool r) env st → Q .ret env st) → SemL P H.laws_eqExpS.ntmps 0 H.laws_eqExpS_l5 [(0, (.sl (List.map Exp.enc x.1))), (1, (.sl (List.map Exp.enc x.2.1))), (5, (.int .i64 x.2.2))] [] Q := by
  obtain ⟨p0, p1, t5_L0⟩ := x
  try dsimp only at h
  intro Q hx hr
  refine SemL.round ?_
  try dsimp only at hx
  refine SemF.seq rfl ?_
  refine SemF.seq rfl ?_
  refine SemF.reg true rfl ?_
  try simp only [gE, ↓gT, ↓reduceIte, reduceCtorEq, reduceAdd, reduceEqDiff, reduceLeDiff, reduceLT]; (repeat intro (_ : _ ≤ lim))
  (repeat intro (_ : _ ≤ lim))
  by_cases hc7 : t5_L0 < ((p0.length : Nat) : Int)
  · rw [if_pos hc7] at h
    refine SemF.cond rfl ?_
    simp only [gE, ↓gT, ↓reduceIte, reduceCtorEq, reduceAdd, reduceEqDiff, reduceLeDiff, reduceLT, eq_true hc7]
    refine SemF.skip rfl ?_
    simp only [gE, ↓gT, ↓reduceIte, reduceCtorEq, reduceAdd, reduceEqDiff, reduceLeDiff, reduceLT, eq_true hc7]
    refine SemF.seq rfl ?_
    refine SemF.block rfl ?_
    refine SemF.seq rfl ?_
    refine SemF.dreg true rfl ?_
    try simp only [gE, ↓gT, ↓reduceIte, reduceCtorEq, reduceAdd, reduceEqDiff, reduceLeDiff, reduceLT, eq_true hc7]; (repeat intro (_ : _ ≤ lim))
    obtain ⟨e8, h_e8, h⟩ := bs h
    have m_e8 := ixm (f := Exp.enc) (ix_get h_e8)
    try simp only [gE, ↓gT, ↓reduceIte, reduceCtorEq, reduceAdd, reduceEqDiff, reduceLeDiff, reduceLT, eq_true hc7, eq_true (ix_nn h_e8), m_e8]; (repeat intro (_ : _ ≤ lim))
    obtain ⟨e9, h_e9, h⟩ := bs h
    have m_e9 := ixm (f := Exp.enc) (ix_get h_e9)
    try simp only [gE, ↓gT, ↓reduceIte, reduceCtorEq, reduceAdd, reduceEqDiff, reduceLeDiff, reduceLT, eq_true hc7, eq_true (ix_nn h_e8), m_e8, eq_true (ix_nn h_e9), m_e9]; (repeat intro (_ : _ ≤ lim))
    obtain ⟨r10, h_r10, h⟩ := bs h
    refine HCp.callE (ih_laws_eqExp (e8, e9) r10 h_r10) (by simp only [gE, ↓gT, ↓reduceIte, reduceCtorEq, reduceAdd, reduceEqDiff, reduceLeDiff, reduceLT, eq_true hc7, eq_true (ix_nn h_e8), m_e8, eq_true (ix_nn h_e9), m_e9]) (by simp only [scT, esT, and_self, true_and, and_true]) (by simp only [scT, esT, and_self, true_and, and_true]) ?_
    try simp only [gE, ↓gT, ↓reduceIte, reduceCtorEq, reduceAdd, reduceEqDiff, reduceLeDiff, reduceLT, eq_true hc7, eq_true (ix_nn h_e8), m_e8, eq_true (ix_nn h_e9), m_e9]; (repeat intro (_ : _ ≤ lim))
    by_cases hc11 : r10 = true
    · rw [if_pos hc11] at h
      refine SemF.cond rfl ?_
      simp only [gE, ↓gT, ↓reduceIte, reduceCtorEq, reduceAdd, reduceEqDiff, reduceLeDiff, reduceLT, eq_true hc7, eq_true (ix_nn h_e8), m_e8, eq_true (ix_nn h_e9), m_e9, hc11]
      refine SemF.skip rfl ?_
      simp only [gE, ↓gT, ↓reduceIte, reduceCtorEq, reduceAdd, reduceEqDiff, reduceLeDiff, reduceLT, eq_true hc7, eq_true (ix_nn h_e8), m_e8, eq_true (ix_nn h_e9), m_e9, hc11]
      refine SemF.reg true rfl ?_
      try simp only [gE, ↓gT, ↓reduceIte, reduceCtorEq, reduceAdd, reduceEqDiff, reduceLeDiff, reduceLT, eq_true hc7, eq_true (ix_nn h_e8), m_e8, eq_true (ix_nn h_e9), m_e9, hc11]; (repeat intro (_ : _ ≤ lim))
      refine SemL.weak (sel := []) ⟨by simp only [gE, ↓gT, ↓reduceIte, reduceCtorEq, reduceAdd, reduceEqDiff, reduceLeDiff, reduceLT, hwT, selS, erT, eq_true hc7, eq_true (ix_nn h_e8), m_e8, eq_true (ix_nn h_e9), m_e9, hc11], by decide, by decide, by simp only [gE, ↓gT, ↓reduceIte, reduceCtorEq, reduceAdd, reduceEqDiff, reduceLeDiff, reduceLT, hwT, selS, erT, subR, eq_true hc7, eq_true (ix_nn h_e8), m_e8, eq_true (ix_nn h_e9), m_e9, hc11], by simp only [gE, ↓gT, ↓reduceIte, reduceCtorEq, reduceAdd, reduceEqDiff, reduceLeDiff, reduceLT, hwT, selS, erT, scT, esT, eq_true hc7, eq_true (ix_nn h_e8), m_e8, eq_true (ix_nn h_e9), m_e9, hc11], by simp only [gE, ↓gT, ↓reduceIte, reduceCtorEq, reduceAdd, reduceEqDiff, reduceLeDiff, reduceLT, hwT, selS, erT, scT, esT, eq_true hc7, eq_true (ix_nn h_e8), m_e8, eq_true (ix_nn h_e9), m_e9, hc11]⟩ (ih_laws_eqExpS_L0 (p0, p1, (IntKind.i64.wrap (t5_L0 + 1))) out h Q hx hr)
    · rw [if_neg hc11] at h
      replace hc11 := eq_false_of_ne_true hc11
      refine SemF.cond rfl ?_
      simp only [gE, ↓gT, ↓reduceIte, reduceCtorEq, reduceAdd, reduceEqDiff, reduceLeDiff, reduceLT, eq_true hc7, eq_true (ix_nn h_e8), m_e8, eq_true (ix_nn h_e9), m_e9, hc11]
      refine SemF.seq rfl ?_
      refine SemF.reg true rfl ?_
      try simp only [gE, ↓gT, ↓reduceIte, reduceCtorEq, reduceAdd, reduceEqDiff, reduceLeDiff, reduceLT, eq_true hc7, eq_true (ix_nn h_e8), m_e8, eq_true (ix_nn h_e9), m_e9, hc11]; (repeat intro (_ : _ ≤ lim))
      refine SemF.ret rfl ?_
      try simp only [gE, ↓gT, ↓reduceIte, reduceCtorEq, reduceAdd, reduceEqDiff, reduceLeDiff, reduceLT, eq_true hc7, eq_true (ix_nn h_e8), m_e8, eq_true (ix_nn h_e9), m_e9, hc11]; (repeat intro (_ : _ ≤ lim))
      obtain rfl := Option.some.inj h
      refine hr _ rfl _ _ ?_
      simp only [gE, ↓gT, ↓reduceIte, reduceCtorEq, reduceAdd, reduceEqDiff, reduceLeDiff, reduceLT, RetP_def, eq_true hc7, eq_true (ix_nn h_e8), m_e8, eq_true (ix_nn h_e9), m_e9, hc11]
  · rw [if_neg hc7] at h
    refine SemF.cond rfl ?_
    simp only [gE, ↓gT, ↓reduceIte, reduceCtorEq, reduceAdd, reduceEqDiff, reduceLeDiff, reduceLT, eq_false hc7]
    refine SemF.exit rfl ?_
    simp only [gE, ↓gT, ↓reduceIte, reduceCtorEq, reduceAdd, reduceEqDiff, reduceLeDiff, reduceLT, eq_false hc7]
    obtain rfl := Option.some.inj h
    refine hx _ rfl _ _ [] ⟨by simp only [gE, ↓gT, ↓reduceIte, reduceCtorEq, reduceAdd, reduceEqDiff, reduceLeDiff, reduceLT, hwT, selS, erT, eq_false hc7], by decide, by decide, by simp only [gE, ↓gT, ↓reduceIte, reduceCtorEq, reduceAdd, reduceEqDiff, reduceLeDiff, reduceLT, hwT, selS, erT, subR, eq_false hc7], by simp only [gE, ↓gT, ↓reduceIte, reduceCtorEq, reduceAdd, reduceEqDiff, reduceLeDiff, reduceLT, hwT, selS, erT, scT, esT, eq_false hc7], by simp only [gE, ↓gT, ↓reduceIte, reduceCtorEq, reduceAdd, reduceEqDiff, reduceLeDiff, reduceLT, hwT, selS, erT, scT, esT, eq_false hc7]⟩
theorem laws_eqAlt_all : (∀ (x : (Alt × Alt)) (r : Bool), M.laws_eqAlt x = some r → HCp P F.laws_eqAlt [(Alt.enc x.1), (Alt.enc x.2)] (HV.bool r)) ∧
  (∀ (x : (Exp × Exp)) (r : Bool), M.laws_eqExp x = some r → HCp P F.laws_eqExp [(Exp.enc x.1), (Exp.enc x.2)] (HV.bool r)) ∧
  (∀ (x : ((List Alt) × (List Alt))) (r : Bool), M.laws_eqAltS x = some r → HCp P F.laws_eqAltS [(.sl (List.map Alt.enc x.1)), (.sl (List.map Alt.enc x.2))] (HV.bool r)) ∧
  (∀ (x : ((List Alt) × (List Alt) × Int)) (out : (Sum Bool Unit)), M.laws_eqAltS_L0 x = some out → ∀ Q : HExit → Env → St → Prop, (∀ v, out = .inr v → ∀ env st sel, Weak 0 sel [] [] env st → Q (.exit 0) env st) → (∀ r, out = .inl r → ∀ env st, RetP [(4, none)] (HV.bool r) env st → Q .ret env st) → SemL P H.laws_eqAltS.ntmps 0 H.laws_eqAltS_l5 [(0, (.sl (List.map Alt.enc x.1))), (1, (.sl (List.map Alt.enc x.2.1))), (5, (.int .i64 x.2.2))] [] Q) ∧
  (∀ (x : ((List Dec) × (List Dec))) (r : Bool), M.laws_eqDecS x = some r → HCp P F.laws_eqDecS [(.sl (List.map Dec.enc x.1)), (.sl (List.map Dec.enc x.2))] (HV.bool r)) ∧
  (∀ (x : ((List Dec) × (List Dec) × Int)) (out : (Sum Bool Unit)), M.laws_eqDecS_L0 x = some out → ∀ Q : HExit → Env → St → Prop, (∀ v, out = .inr v → ∀ env st sel, Weak 0 sel [] [] env st → Q (.exit 0) env st) → (∀ r, out = .inl r → ∀ env st, RetP [(4, none)] (HV.bool r) env st → Q .ret env st) → SemL P H.laws_eqDecS.ntmps 0 H.laws_eqDecS_l5 [(0, (.sl (List.map Dec.enc x.1))), (1, (.sl (List.map Dec.enc x.2.1))), (5, (.int .i64 x.2.2))] [] Q) ∧
  (∀ (x : (Dec × Dec)) (r : Bool), M.laws_eqDec x = some r → HCp P F.laws_eqDec [(Dec.enc x.1), (Dec.enc x.2)] (HV.bool r)) ∧
  (∀ (x : ((List Exp) × (List Exp))) (r : Bool), M.laws_eqExpS x = some r → HCp P F.laws_eqExpS [(.sl (List.map Exp.enc x.1)), (.sl (List.map Exp.enc x.2))] (HV.bool r)) ∧
  (∀ (x : ((List Exp) × (List Exp) × Int)) (out : (Sum Bool Unit)), M.laws_eqExpS_L0 x = some out → ∀ Q : HExit → Env → St → Prop, (∀ v, out = .inr v → ∀ env st sel, Weak 0 sel [] [] env st → Q (.exit 0) env st) → (∀ r, out = .inl r → ∀ env st, RetP [(4, none)] (HV.bool r) env st → Q .ret env st) → SemL P H.laws_eqExpS.ntmps 0 H.laws_eqExpS_l5 [(0, (.sl (List.map Exp.enc x.1))), (1, (.sl (List.map Exp.enc x.2.1))), (5, (.int .i64 x.2.2))] [] Q) := by
  refine M.laws_eqAlt.mutual_partial_correctness (motive_1 := fun x r => HCp P F.laws_eqAlt [(Alt.enc x.1), (Alt.enc x.2)] (HV.bool r)) (motive_2 := fun x r => HCp P F.laws_eqExp [(Exp.enc x.1), (Exp.enc x.2)] (HV.bool r)) (motive_3 := fun x r => HCp P F.laws_eqAltS [(.sl (List.map Alt.enc x.1)), (.sl (List.map Alt.enc x.2))] (HV.bool r)) (motive_4 := fun x out => ∀ Q : HExit → Env → St → Prop, (∀ v, out = .inr v → ∀ env st sel, Weak 0 sel [] [] env st → Q (.exit 0) env st) → (∀ r, out = .inl r → ∀ env st, RetP [(4, none)] (HV.bool r) env st → Q .ret env st) → SemL P H.laws_eqAltS.ntmps 0 H.laws_eqAltS_l5 [(0, (.sl (List.map Alt.enc x.1))), (1, (.sl (List.map Alt.enc x.2.1))), (5, (.int .i64 x.2.2))] [] Q) (motive_5 := fun x r => HCp P F.laws_eqDecS [(.sl (List.map Dec.enc x.1)), (.sl (List.map Dec.enc x.2))] (HV.bool r)) (motive_6 := fun x out => ∀ Q : HExit → Env → St → Prop, (∀ v, out = .inr v → ∀ env st sel, Weak 0 sel [] [] env st → Q (.exit 0) env st) → (∀ r, out = .inl r → ∀ env st, RetP [(4, none)] (HV.bool r) env st → Q .ret env st) → SemL P H.laws_eqDecS.ntmps 0 H.laws_eqDecS_l5 [(0, (.sl (List.map Dec.enc x.1))), (1, (.sl (List.map Dec.enc x.2.1))), (5, (.int .i64 x.2.2))] [] Q) (motive_7 := fun x r => HCp P F.laws_eqDec [(Dec.enc x.1), (Dec.enc x.2)] (HV.bool r)) (motive_8 := fun x r => HCp P F.laws_eqExpS [(.sl (List.map Exp.enc x.1)), (.sl (List.map Exp.enc x.2))] (HV.bool r)) (motive_9 := fun x out => ∀ Q : HExit → Env → St → Prop, (∀ v, out = .inr v → ∀ env st sel, Weak 0 sel [] [] env st → Q (.exit 0) env st) → (∀ r, out = .inl r → ∀ env st, RetP [(4, none)] (HV.bool r) env st → Q .ret env st) → SemL P H.laws_eqExpS.ntmps 0 H.laws_eqExpS_l5 [(0, (.sl (List.map Exp.enc x.1))), (1, (.sl (List.map Exp.enc x.2.1))), (5, (.int .i64 x.2.2))] [] Q) ?_ ?_ ?_ ?_ ?_ ?_ ?_ ?_ ?_
  · exact fun f_laws_eqExp ih_laws_eqExp x r h => K.laws_eqAlt_step f_laws_eqExp ih_laws_eqExp x r h
  · exact fun f_laws_eqAltS f_laws_eqDecS f_laws_eqExpS ih_laws_eqAltS ih_laws_eqDecS ih_laws_eqExpS x r h => K.laws_eqExp_step f_laws_eqAltS f_laws_eqDecS f_laws_eqExpS ih_laws_eqAltS ih_laws_eqDecS ih_laws_eqExpS x r h
  · exact fun f_laws_eqAltS_L0 ih_laws_eqAltS_L0 x r h => K.laws_eqAltS_step f_laws_eqAltS_L0 ih_laws_eqAltS_L0 x r h
  · exact fun f_laws_eqAlt f_laws_eqAltS_L0 ih_laws_eqAlt ih_laws_eqAltS_L0 x out h => K.laws_eqAltS_L0_step f_laws_eqAlt f_laws_eqAltS_L0 ih_laws_eqAlt ih_laws_eqAltS_L0 x out h
  · exact fun f_laws_eqDecS_L0 ih_laws_eqDecS_L0 x r h => K.laws_eqDecS_step f_laws_eqDecS_L0 ih_laws_eqDecS_L0 x r h
  · exact fun f_laws_eqDecS_L0 f_laws_eqDec ih_laws_eqDecS_L0 ih_laws_eqDec x out h => K.laws_eqDecS_L0_step f_laws_eqDecS_L0 f_laws_eqDec ih_laws_eqDecS_L0 ih_laws_eqDec x out h
  · exact fun f_laws_eqExp f_laws_eqDecS ih_laws_eqExp ih_laws_eqDecS x r h => K.laws_eqDec_step f_laws_eqExp f_laws_eqDecS ih_laws_eqExp ih_laws_eqDecS x r h
  · exact fun f_laws_eqExpS_L0 ih_laws_eqExpS_L0 x r h => K.laws_eqExpS_step f_laws_eqExpS_L0 ih_laws_eqExpS_L0 x r h
  · exact fun f_laws_eqExp f_laws_eqExpS_L0 ih_laws_eqExp ih_laws_eqExpS_L0 x out h => K.laws_eqExpS_L0_step f_laws_eqExp f_laws_eqExpS_L0 ih_laws_eqExp ih_laws_eqExpS_L0 x out h
theorem laws_eqAlt : (∀ (x : (Alt × Alt)) (r : Bool), M.laws_eqAlt x = some r → HCp P F.laws_eqAlt [(Alt.enc x.1), (Alt.enc x.2)] (HV.bool r)) := K.laws_eqAlt_all.1
theorem laws_eqExp : (∀ (x : (Exp × Exp)) (r : Bool), M.laws_eqExp x = some r → HCp P F.laws_eqExp [(Exp.enc x.1), (Exp.enc x.2)] (HV.bool r)) := K.laws_eqAlt_all.2.1
theorem laws_eqAltS : (∀ (x : ((List Alt) × (List Alt))) (r : Bool), M.laws_eqAltS x = some r → HCp P F.laws_eqAltS [(.sl (List.map Alt.enc x.1)), (.sl (List.map Alt.enc x.2))] (HV.bool r)) := K.laws_eqAlt_all.2.2.1
theorem laws_eqAltS_L0 : (∀ (x : ((List Alt) × (List Alt) × Int)) (out : (Sum Bool Unit)), M.laws_eqAltS_L0 x = some out → ∀ Q : HExit → Env → St → Prop, (∀ v, out = .inr v → ∀ env st sel, Weak 0 sel [] [] env st → Q (.exit 0) env st) → (∀ r, out = .inl r → ∀ env st, RetP [(4, none)] (HV.bool r) env st → Q .ret env st) → SemL P H.laws_eqAltS.ntmps 0 H.laws_eqAltS_l5 [(0, (.sl (List.map Alt.enc x.1))), (1, (.sl (List.map Alt.enc x.2.1))), (5, (.int .i64 x.2.2))] [] Q) := K.laws_eqAlt_all.2.2.2.1
theorem laws_eqDecS : (∀ (x : ((List Dec) × (List Dec))) (r : Bool), M.laws_eqDecS x = some r → HCp P F.laws_eqDecS [(.sl (List.map Dec.enc x.1)), (.sl (List.map Dec.enc x.2))] (HV.bool r)) := K.laws_eqAlt_all.2.2.2.2.1
theorem laws_eqDecS_L0 : (∀ (x : ((List Dec) × (List Dec) × Int)) (out : (Sum Bool Unit)), M.laws_eqDecS_L0 x = some out → ∀ Q : HExit → Env → St → Prop, (∀ v, out = .inr v → ∀ env st sel, Weak 0 sel [] [] env st → Q (.exit 0) env st) → (∀ r, out = .inl r → ∀ env st, RetP [(4, none)] (HV.bool r) env st → Q .ret env st) → SemL P H.laws_eqDecS.ntmps 0 H.laws_eqDecS_l5 [(0, (.sl (List.map Dec.enc x.1))), (1, (.sl (List.map Dec.enc x.2.1))), (5, (.int .i64 x.2.2))] [] Q) := K.laws_eqAlt_all.2.2.2.2.2.1
theorem laws_eqDec : (∀ (x : (Dec × Dec)) (r : Bool), M.laws_eqDec x = some r → HCp P F.laws_eqDec [(Dec.enc x.1), (Dec.enc x.2)] (HV.bool r)) := K.laws_eqAlt_all.2.2.2.2.2.2.1
theorem laws_eqExpS : (∀ (x : ((List Exp) × (List Exp))) (r : Bool), M.laws_eqExpS x = some r → HCp P F.laws_eqExpS [(.sl (List.map Exp.enc x.1)), (.sl (List.map Exp.enc x.2))] (HV.bool r)) := K.laws_eqAlt_all.2.2.2.2.2.2.2.1
theorem laws_eqExpS_L0 : (∀ (x : ((List Exp) × (List Exp) × Int)) (out : (Sum Bool Unit)), M.laws_eqExpS_L0 x = some out → ∀ Q : HExit → Env → St → Prop, (∀ v, out = .inr v → ∀ env st sel, Weak 0 sel [] [] env st → Q (.exit 0) env st) → (∀ r, out = .inl r → ∀ env st, RetP [(4, none)] (HV.bool r) env st → Q .ret env st) → SemL P H.laws_eqExpS.ntmps 0 H.laws_eqExpS_l5 [(0, (.sl (List.map Exp.enc x.1))), (1, (.sl (List.map Exp.enc x.2.1))), (5, (.int .i64 x.2.2))] [] Q) := K.laws_eqAlt_all.2.2.2.2.2.2.2.2
theorem laws_FnExactIsBare : ∀ (x : Exp) (r : Bool), M.laws_FnExactIsBare x = some r → HCp P F.laws_FnExactIsBare [(Exp.enc x)] (HV.bool r) := by
  intro x r h
  revert h; revert x; intro p0 h
  unfold M.laws_FnExactIsBare at h
  try dsimp only at h
  refine HCp.mkF S.laws_FnExactIsBare (by simp [H.laws_FnExactIsBare]) (by simp only [scT, esT, and_self, true_and, and_true]) ?_
  simp only [gE, ↓gT, ↓reduceIte, reduceCtorEq, reduceAdd, reduceEqDiff, reduceLeDiff, reduceLT, H.laws_FnExactIsBare]
  refine SemF.seq rfl ?_
  refine SemF.reg true rfl ?_
  try simp only [gE, ↓gT, ↓reduceIte, reduceCtorEq, reduceAdd, reduceEqDiff, reduceLeDiff, reduceLT]; (repeat intro (_ : _ ≤ lim))
  refine SemF.seq rfl ?_
  refine SemF.reg true rfl ?_
  try simp only [gE, ↓gT, ↓reduceIte, reduceCtorEq, reduceAdd, reduceEqDiff, reduceLeDiff, reduceLT]; (repeat intro (_ : _ ≤ lim))
  refine SemF.seq rfl ?_
  refine SemF.reg true rfl ?_
  try simp only [gE, ↓gT, ↓reduceIte, reduceCtorEq, reduceAdd, reduceEqDiff, reduceLeDiff, reduceLT]; (repeat intro (_ : _ ≤ lim))
  obtain ⟨r1, h_r1, h⟩ := bs h
  refine HCp.callE (K.laws_szExp (p0, 1048576) r1 h_r1) (by simp only [gE, ↓gT, ↓reduceIte, reduceCtorEq, reduceAdd, reduceEqDiff, reduceLeDiff, reduceLT]) (by simp only [scT, esT, and_self, true_and, and_true]) (by simp only [scT, esT, and_self, true_and, and_true]) ?_
  try simp only [gE, ↓gT, ↓reduceIte, reduceCtorEq, reduceAdd, reduceEqDiff, reduceLeDiff, reduceLT]; (repeat intro (_ : _ ≤ lim))
  refine SemF.seq rfl ?_
  refine SemF.seq rfl ?_
  refine SemF.reg true rfl ?_
  try simp only [gE, ↓gT, ↓reduceIte, reduceCtorEq, reduceAdd, reduceEqDiff, reduceLeDiff, reduceLT]; (repeat intro (_ : _ ≤ lim))
  by_cases hc2 : r1 < 0
  · rw [if_pos hc2] at h
    refine SemF.cond rfl ?_
    simp only [gE, ↓gT, ↓reduceIte, reduceCtorEq, reduceAdd, reduceEqDiff, reduceLeDiff, reduceLT, eq_true hc2]
    refine SemF.seq rfl ?_
    refine SemF.reg true rfl ?_
    try simp only [gE, ↓gT, ↓reduceIte, reduceCtorEq, reduceAdd, reduceEqDiff, reduceLeDiff, reduceLT, eq_true hc2]; (repeat intro (_ : _ ≤ lim))
    refine SemF.ret rfl ?_
    try simp only [gE, ↓gT, ↓reduceIte, reduceCtorEq, reduceAdd, reduceEqDiff, reduceLeDiff, reduceLT, eq_true hc2]; (repeat intro (_ : _ ≤ lim))
    obtain rfl := Option.some.inj h
    simp only [gE, ↓gT, ↓reduceIte, reduceCtorEq, reduceAdd, reduceEqDiff, reduceLeDiff, reduceLT, RetP_def, eq_true hc2]
  · rw [if_neg hc2] at h
    refine SemF.cond rfl ?_
    simp only [gE, ↓gT, ↓reduceIte, reduceCtorEq, reduceAdd, reduceEqDiff, reduceLeDiff, reduceLT, eq_false hc2]
    refine SemF.skip rfl ?_
    simp only [gE, ↓gT, ↓reduceIte, reduceCtorEq, reduceAdd, reduceEqDiff, reduceLeDiff, reduceLT, eq_false hc2]
    refine SemF.seq rfl ?_
    refine SemF.reg true rfl ?_
    try simp only [gE, ↓gT, ↓reduceIte, reduceCtorEq, reduceAdd, reduceEqDiff, reduceLeDiff, reduceLT, eq_false hc2]; (repeat intro (_ : _ ≤ lim))
    obtain ⟨r3, h_r3, h⟩ := bs h
    refine HCp.callE (K.laws_toExp p0 r3 h_r3) (by simp only [gE, ↓gT, ↓reduceIte, reduceCtorEq, reduceAdd, reduceEqDiff, reduceLeDiff, reduceLT, eq_false hc2]) (by simp only [scT, esT, and_self, true_and, and_true]) (by simp only [scT, esT, and_self, true_and, and_true]) ?_
    try simp only [gE, ↓gT, ↓reduceIte, reduceCtorEq, reduceAdd, reduceEqDiff, reduceLeDiff, reduceLT, eq_false hc2]; (repeat intro (_ : _ ≤ lim))
    obtain ⟨r4, h_r4, h⟩ := bs h
    refine HCp.callE (K.spec_IsBare r3 r4 h_r4) (by simp only [gE, ↓gT, ↓reduceIte, reduceCtorEq, reduceAdd, reduceEqDiff, reduceLeDiff, reduceLT, eq_false hc2]) (by simp only [scT, esT, and_self, true_and, and_true]) (by simp only [scT, esT, and_self, true_and, and_true]) ?_
    try simp only [gE, ↓gT, ↓reduceIte, reduceCtorEq, reduceAdd, reduceEqDiff, reduceLeDiff, reduceLT, eq_false hc2]; (repeat intro (_ : _ ≤ lim))
    refine SemF.seq rfl ?_
    refine SemF.reg true rfl ?_
    try simp only [gE, ↓gT, ↓reduceIte, reduceCtorEq, reduceAdd, reduceEqDiff, reduceLeDiff, reduceLT, eq_false hc2]; (repeat intro (_ : _ ≤ lim))
    obtain ⟨r5, h_r5, h⟩ := bs h
    refine HCp.callE (K.laws_toExp p0 r5 h_r5) (by simp only [gE, ↓gT, ↓reduceIte, reduceCtorEq, reduceAdd, reduceEqDiff, reduceLeDiff, reduceLT, eq_false hc2]) (by simp only [scT, esT, and_self, true_and, and_true]) (by simp only [scT, esT, and_self, true_and, and_true]) ?_
    try simp only [gE, ↓gT, ↓reduceIte, reduceCtorEq, reduceAdd, reduceEqDiff, reduceLeDiff, reduceLT, eq_false hc2]; (repeat intro (_ : _ ≤ lim))
    refine SemF.seq rfl ?_
    refine SemF.reg true rfl ?_
    try simp only [gE, ↓gT, ↓reduceIte, reduceCtorEq, reduceAdd, reduceEqDiff, reduceLeDiff, reduceLT, eq_false hc2]; (repeat intro (_ : _ ≤ lim))
    obtain ⟨r6, h_r6, h⟩ := bs h
    refine HCp.callE (K.impl_IsBare r5 r6 h_r6) (by simp only [gE, ↓gT, ↓reduceIte, reduceCtorEq, reduceAdd, reduceEqDiff, reduceLeDiff, reduceLT, eq_false hc2]) (by simp only [scT, esT, and_self, true_and, and_true]) (by simp only [scT, esT, and_self, true_and, and_true]) ?_
    try simp only [gE, ↓gT, ↓reduceIte, reduceCtorEq, reduceAdd, reduceEqDiff, reduceLeDiff, reduceLT, eq_false hc2]; (repeat intro (_ : _ ≤ lim))
    refine SemF.seq rfl ?_
    refine SemF.seq rfl ?_
    refine SemF.reg true rfl ?_
    try simp only [gE, ↓gT, ↓reduceIte, reduceCtorEq, reduceAdd, reduceEqDiff, reduceLeDiff, reduceLT, eq_false hc2]; (repeat intro (_ : _ ≤ lim))
    by_cases hc7 : (r6 == r4) = true
    · rw [if_pos hc7] at h
      refine SemF.cond rfl ?_
      simp only [gE, ↓gT, ↓reduceIte, reduceCtorEq, reduceAdd, reduceEqDiff, reduceLeDiff, reduceLT, eq_false hc2, hc7]
      refine SemF.skip rfl ?_
      simp only [gE, ↓gT, ↓reduceIte, reduceCtorEq, reduceAdd, reduceEqDiff, reduceLeDiff, reduceLT, eq_false hc2, hc7]
      refine SemF.seq rfl ?_
      refine SemF.seq rfl ?_
      refine SemF.dreg true rfl ?_
      try simp only [gE, ↓gT, ↓reduceIte, reduceCtorEq, reduceAdd, reduceEqDiff, reduceLeDiff, reduceLT, eq_false hc2, hc7]; (repeat intro (_ : _ ≤ lim))
      obtain ⟨r8, h_r8, h⟩ := bs h
      refine HCp.callE (K.laws_toExp p0 r8 h_r8) (by simp only [gE, ↓gT, ↓reduceIte, reduceCtorEq, reduceAdd, reduceEqDiff, reduceLeDiff, reduceLT, eq_false hc2, hc7]) (by simp only [scT, esT, and_self, true_and, and_true]) (by simp only [scT, esT, and_self, true_and, and_true]) ?_
      try simp only [gE, ↓gT, ↓reduceIte, reduceCtorEq, reduceAdd, reduceEqDiff, reduceLeDiff, reduceLT, eq_false hc2, hc7]; (repeat intro (_ : _ ≤ lim))
      obtain ⟨r9, h_r9, h⟩ := bs h
      refine HCp.callE (K.laws_eqExp (r5, r8) r9 h_r9) (by simp only [gE, ↓gT, ↓reduceIte, reduceCtorEq, reduceAdd, reduceEqDiff, reduceLeDiff, reduceLT, eq_false hc2, hc7]) (by simp only [scT, esT, and_self, true_and, and_true]) (by simp only [scT, esT, and_self, true_and, and_true]) ?_
      try simp only [gE, ↓gT, ↓reduceIte, reduceCtorEq, reduceAdd, reduceEqDiff, reduceLeDiff, reduceLT, eq_false hc2, hc7]; (repeat intro (_ : _ ≤ lim))
      by_cases hc10 : r9 = true
      · rw [if_pos hc10] at h
        refine SemF.cond rfl ?_
        simp only [gE, ↓gT, ↓reduceIte, reduceCtorEq, reduceAdd, reduceEqDiff, reduceLeDiff, reduceLT, eq_false hc2, hc7, hc10]
        refine SemF.skip rfl ?_
        simp only [gE, ↓gT, ↓reduceIte, reduceCtorEq, reduceAdd, reduceEqDiff, reduceLeDiff, reduceLT, eq_false hc2, hc7, hc10]
        refine SemF.seq rfl ?_
        refine SemF.reg true rfl ?_
        try simp only [gE, ↓gT, ↓reduceIte, reduceCtorEq, reduceAdd, reduceEqDiff, reduceLeDiff, reduceLT, eq_false hc2, hc7, hc10]; (repeat intro (_ : _ ≤ lim))
        refine SemF.ret rfl ?_
        try simp only [gE, ↓gT, ↓reduceIte, reduceCtorEq, reduceAdd, reduceEqDiff, reduceLeDiff, reduceLT, eq_false hc2, hc7, hc10]; (repeat intro (_ : _ ≤ lim))
        obtain rfl := Option.some.inj h
        simp only [gE, ↓gT, ↓reduceIte, reduceCtorEq, reduceAdd, reduceEqDiff, reduceLeDiff, reduceLT, RetP_def, eq_false hc2, hc7, hc10]
      · rw [if_neg hc10] at h
        replace hc10 := eq_false_of_ne_true hc10
        refine SemF.cond rfl ?_
        simp only [gE, ↓gT, ↓reduceIte, reduceCtorEq, reduceAdd, reduceEqDiff, reduceLeDiff, reduceLT, eq_false hc2, hc7, hc10]
        refine SemF.seq rfl ?_
        refine SemF.reg true rfl ?_
        try simp only [gE, ↓gT, ↓reduceIte, reduceCtorEq, reduceAdd, reduceEqDiff, reduceLeDiff, reduceLT, eq_false hc2, hc7, hc10]; (repeat intro (_ : _ ≤ lim))
        refine SemF.ret rfl ?_
        try simp only [gE, ↓gT, ↓reduceIte, reduceCtorEq, reduceAdd, reduceEqDiff, reduceLeDiff, reduceLT, eq_false hc2, hc7, hc10]; (repeat intro (_ : _ ≤ lim))
        obtain rfl := Option.some.inj h
        simp only [gE, ↓gT, ↓reduceIte, reduceCtorEq, reduceAdd, reduceEqDiff, reduceLeDiff, reduceLT, RetP_def, eq_false hc2, hc7, hc10]
    · rw [if_neg hc7] at h
      replace hc7 := eq_false_of_ne_true hc7
      refine SemF.cond rfl ?_
      simp only [gE, ↓gT, ↓reduceIte, reduceCtorEq, reduceAdd, reduceEqDiff, reduceLeDiff, reduceLT, eq_false hc2, hc7]
      refine SemF.seq rfl ?_
      refine SemF.reg true rfl ?_
      try simp only [gE, ↓gT, ↓reduceIte, reduceCtorEq, reduceAdd, reduceEqDiff, reduceLeDiff, reduceLT, eq_false hc2, hc7]; (repeat intro (_ : _ ≤ lim))
      refine SemF.ret rfl ?_
      try simp only [gE, ↓gT, ↓reduceIte, reduceCtorEq, reduceAdd, reduceEqDiff, reduceLeDiff, reduceLT, eq_false hc2, hc7]; (repeat intro (_ : _ ≤ lim))
      obtain rfl := Option.some.inj h
      simp only [gE, ↓gT, ↓reduceIte, reduceCtorEq, reduceAdd, reduceEqDiff, reduceLeDiff, reduceLT, RetP_def, eq_false hc2, hc7]
end K
end W
