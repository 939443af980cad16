import Derived.Test.YtnhdobhfebiggaaEPrf10
namespace W
set_option linter.unusedSimpArgs false
set_option linter.unusedVariables false
open Go HL S
open Nat (reduceAdd reduceEqDiff reduceLeDiff reduceSub reduceMul reduceLT)
set_option linter.unusedVariables false
set_option maxRecDepth 100000
set_option maxHeartbeats 4000000
namespace K
theorem laws_eqExpS_L0_step (f_laws_eqExp : (Exp × Exp) → Option Bool) (f_laws_eqExpS_L0 : ((List Exp) × (List Exp) × Int) → Option (Sum Bool Unit)) (ih_laws_eqExp : ∀ (x : (Exp × Exp)) (r : Bool), f_laws_eqExp x = some r → HCp P F.laws_eqExp [(Exp.enc x.1), (Exp.enc x.2)] (HV.bool r)) (ih_laws_eqExpS_L0 : ∀ (x : ((List Exp) × (List Exp) × Int)) (out : (Sum Bool Unit)), f_laws_eqExpS_L0 x = some out → ∀ Q : HExit → Env → St → Prop, (∀ v, out = .inr v → ∀ env st sel, Weak 0 sel [] [] env st → Q (.exit 0) env st) → (∀ r, out = .inl r → ∀ env st, RetP [(4, none)] (HV.bool r) env st → Q .ret env st) → SemL P H.laws_eqExpS.ntmps 0 H.laws_eqExpS_l5 [(0, (.sl (List.map Exp.enc x.1))), (1, (.sl (List.map Exp.enc x.2.1))), (5, (.int .i64 x.2.2))] [] Q) (x : ((List Exp) × (List Exp) × Int)) (out : (Sum Bool Unit)) (h : (if x.2.2 < ((x.1.length : Nat) : Int) then (ix x.1 x.2.2 >>= fun e8 =>
    (ix x.2.1 x.2.2 >>= fun e9 =>
    (f_laws_eqExp (e8, e9) >>= fun r10 =>
    (if r10 = true then f_laws_eqExpS_L0 (x.1, x.2.1, (IntKind.i64.wrap (x.2.2 + 1))) else
    some (.inl false))))) else
    some (.inr ())) = some out) : ∀ Q : HExit → Env → St → Prop, (∀ v, out = .inr v → ∀ env st sel, Weak 0 sel [] [] env st → Q (.exit 0) env st) → (∀ r, out = .inl r → ∀ env st, RetP [(4, none)] (HV.bool r) env st → Q .ret env st) → SemL P H.laws_eqExpS.ntmps 0 H.laws_eqExpS_l5 [(0, (.sl (List.map Exp.enc x.1))), (1, (.sl (List.map Exp.enc x.2.1))), (5, (.int .i64 x.2.2))] [] Q := by
  obtain ⟨p0, p1, t5_L0⟩ := x
  try dsimp only at h
  intro Q hx hr
  refine SemL.round ?_
  try dsimp only at hx
  refine SemF.seq rfl ?_
  refine SemF.seq rfl ?_
  refine SemF.reg true rfl ?_
  try simp only [gE, ↓gT, ↓reduceIte, reduceCtorEq, reduceAdd, reduceEqDiff, reduceLeDiff, reduceLT]; (repeat intro (_ : _ ≤ lim))
  (repeat intro (_ : _ ≤ lim))
  by_cases hc7 : t5_L0 < ((p0.length : Nat) : Int)
  · rw [if_pos hc7] at h
    refine SemF.cond rfl ?_
    simp only [gE, ↓gT, ↓reduceIte, reduceCtorEq, reduceAdd, reduceEqDiff, reduceLeDiff, reduceLT, eq_true hc7]
    refine SemF.skip rfl ?_
    simp only [gE, ↓gT, ↓reduceIte, reduceCtorEq, reduceAdd, reduceEqDiff, reduceLeDiff, reduceLT, eq_true hc7]
    refine SemF.seq rfl ?_
    refine SemF.block rfl ?_
    refine SemF.seq rfl ?_
    refine SemF.dreg true rfl ?_
    try simp only [gE, ↓gT, ↓reduceIte, reduceCtorEq, reduceAdd, reduceEqDiff, reduceLeDiff, reduceLT, eq_true hc7]; (repeat intro (_ : _ ≤ lim))
    obtain ⟨e8, h_e8, h⟩ := bs h
    have m_e8 := ixm (f := Exp.enc) (ix_get h_e8)
    try simp only [gE, ↓gT, ↓reduceIte, reduceCtorEq, reduceAdd, reduceEqDiff, reduceLeDiff, reduceLT, eq_true hc7, eq_true (ix_nn h_e8), m_e8]; (repeat intro (_ : _ ≤ lim))
    obtain ⟨e9, h_e9, h⟩ := bs h
    have m_e9 := ixm (f := Exp.enc) (ix_get h_e9)
    try simp only [gE, ↓gT, ↓reduceIte, reduceCtorEq, reduceAdd, reduceEqDiff, reduceLeDiff, reduceLT, eq_true hc7, eq_true (ix_nn h_e8), m_e8, eq_true (ix_nn h_e9), m_e9]; (repeat intro (_ : _ ≤ lim))
    obtain ⟨r10, h_r10, h⟩ := bs h
    refine HCp.callE (ih_laws_eqExp (e8, e9) r10 h_r10) (by simp only [gE, ↓gT, ↓reduceIte, reduceCtorEq, reduceAdd, reduceEqDiff, reduceLeDiff, reduceLT, eq_true hc7, eq_true (ix_nn h_e8), m_e8, eq_true (ix_nn h_e9), m_e9]) (by simp only [scT, esT, and_self, true_and, and_true]) (by simp only [scT, esT, and_self, true_and, and_true]) ?_
    try simp only [gE, ↓gT, ↓reduceIte, reduceCtorEq, reduceAdd, reduceEqDiff, reduceLeDiff, reduceLT, eq_true hc7, eq_true (ix_nn h_e8), m_e8, eq_true (ix_nn h_e9), m_e9]; (repeat intro (_ : _ ≤ lim))
    by_cases hc11 : r10 = true
    · rw [if_pos hc11] at h
      refine SemF.cond rfl ?_
      simp only [gE, ↓gT, ↓reduceIte, reduceCtorEq, reduceAdd, reduceEqDiff, reduceLeDiff, reduceLT, eq_true hc7, eq_true (ix_nn h_e8), m_e8, eq_true (ix_nn h_e9), m_e9, hc11]
      refine SemF.skip rfl ?_
      simp only [gE, ↓gT, ↓reduceIte, reduceCtorEq, reduceAdd, reduceEqDiff, reduceLeDiff, reduceLT, eq_true hc7, eq_true (ix_nn h_e8), m_e8, eq_true (ix_nn h_e9), m_e9, hc11]
      refine SemF.reg true rfl ?_
      try simp only [gE, ↓gT, ↓reduceIte, reduceCtorEq, reduceAdd, reduceEqDiff, reduceLeDiff, reduceLT, eq_true hc7, eq_true (ix_nn h_e8), m_e8, eq_true (ix_nn h_e9), m_e9, hc11]; (repeat intro (_ : _ ≤ lim))
      refine SemL.weak (sel := []) ⟨by simp only [gE, ↓gT, ↓reduceIte, reduceCtorEq, reduceAdd, reduceEqDiff, reduceLeDiff, reduceLT, hwT, selS, erT, eq_true hc7, eq_true (ix_nn h_e8), m_e8, eq_true (ix_nn h_e9), m_e9, hc11], by decide, by decide, by simp only [gE, ↓gT, ↓reduceIte, reduceCtorEq, reduceAdd, reduceEqDiff, reduceLeDiff, reduceLT, hwT, selS, erT, subR, eq_true hc7, eq_true (ix_nn h_e8), m_e8, eq_true (ix_nn h_e9), m_e9, hc11], by simp only [gE, ↓gT, ↓reduceIte, reduceCtorEq, reduceAdd, reduceEqDiff, reduceLeDiff, reduceLT, hwT, selS, erT, scT, esT, eq_true hc7, eq_true (ix_nn h_e8), m_e8, eq_true (ix_nn h_e9), m_e9, hc11], by simp only [gE, ↓gT, ↓reduceIte, reduceCtorEq, reduceAdd, reduceEqDiff, reduceLeDiff, reduceLT, hwT, selS, erT, scT, esT, eq_true hc7, eq_true (ix_nn h_e8), m_e8, eq_true (ix_nn h_e9), m_e9, hc11]⟩ (ih_laws_eqExpS_L0 (p0, p1, (IntKind.i64.wrap (t5_L0 + 1))) out h Q hx hr)
    · rw [if_neg hc11] at h
      replace hc11 := eq_false_of_ne_true hc11
      refine SemF.cond rfl ?_
      simp only [gE, ↓gT, ↓reduceIte, reduceCtorEq, reduceAdd, reduceEqDiff, reduceLeDiff, reduceLT, eq_true hc7, eq_true (ix_nn h_e8), m_e8, eq_true (ix_nn h_e9), m_e9, hc11]
      refine SemF.seq rfl ?_
      refine SemF.reg true rfl ?_
      try simp only [gE, ↓gT, ↓reduceIte, reduceCtorEq, reduceAdd, reduceEqDiff, reduceLeDiff, reduceLT, eq_true hc7, eq_true (ix_nn h_e8), m_e8, eq_true (ix_nn h_e9), m_e9, hc11]; (repeat intro (_ : _ ≤ lim))
      refine SemF.ret rfl ?_
      try simp only [gE, ↓gT, ↓reduceIte, reduceCtorEq, reduceAdd, reduceEqDiff, reduceLeDiff, reduceLT, eq_true hc7, eq_true (ix_nn h_e8), m_e8, eq_true (ix_nn h_e9), m_e9, hc11]; (repeat intro (_ : _ ≤ lim))
      obtain rfl := Option.some.inj h
      refine hr _ rfl _ _ ?_
      simp only [gE, ↓gT, ↓reduceIte, reduceCtorEq, reduceAdd, reduceEqDiff, reduceLeDiff, reduceLT, RetP_def, eq_true hc7, eq_true (ix_nn h_e8), m_e8, eq_true (ix_nn h_e9), m_e9, hc11]
  · rw [if_neg hc7] at h
    refine SemF.cond rfl ?_
    simp only [gE, ↓gT, ↓reduceIte, reduceCtorEq, reduceAdd, reduceEqDiff, reduceLeDiff, reduceLT, eq_false hc7]
    refine SemF.exit rfl ?_
    simp only [gE, ↓gT, ↓reduceIte, reduceCtorEq, reduceAdd, reduceEqDiff, reduceLeDiff, reduceLT, eq_false hc7]
    obtain rfl := Option.some.inj h
    refine hx _ rfl _ _ [] ⟨by simp only [gE, ↓gT, ↓reduceIte, reduceCtorEq, reduceAdd, reduceEqDiff, reduceLeDiff, reduceLT, hwT, selS, erT, eq_false hc7], by decide, by decide, by simp only [gE, ↓gT, ↓reduceIte, reduceCtorEq, reduceAdd, reduceEqDiff, reduceLeDiff, reduceLT, hwT, selS, erT, subR, eq_false hc7], by simp only [gE, ↓gT, ↓reduceIte, reduceCtorEq, reduceAdd, reduceEqDiff, reduceLeDiff, reduceLT, hwT, selS, erT, scT, esT, eq_false hc7], by simp only [gE, ↓gT, ↓reduceIte, reduceCtorEq, reduceAdd, reduceEqDiff, reduceLeDiff, reduceLT, hwT, selS, erT, scT, esT, eq_false hc7]⟩
theorem laws_eqAlt_all : (∀ (x : (Alt × Alt)) (r : Bool), M.laws_eqAlt x = some r → HCp P F.laws_eqAlt [(Alt.enc x.1), (Alt.enc x.2)] (HV.bool r)) ∧
  (∀ (x : (Exp × Exp)) (r : Bool), M.laws_eqExp x = some r → HCp P F.laws_eqExp [(Exp.enc x.1), (Exp.enc x.2)] (HV.bool r)) ∧
  (∀ (x : ((List Alt) × (List Alt))) (r : Bool), M.laws_eqAltS x = some r → HCp P F.laws_eqAltS [(.sl (List.map Alt.enc x.1)), (.sl (List.map Alt.enc x.2))] (HV.bool r)) ∧
  (∀ (x : ((List Alt) × (List Alt) × Int)) (out : (Sum Bool Unit)), M.laws_eqAltS_L0 x = some out → ∀ Q : HExit → Env → St → Prop, (∀ v, out = .inr v → ∀ env st sel, Weak 0 sel [] [] env st → Q (.exit 0) env st) → (∀ r, out = .inl r → ∀ env st, RetP [(4, none)] (HV.bool r) env st → Q .ret env st) → SemL P H.laws_eqAltS.ntmps 0 H.laws_eqAltS_l5 [(0, (.sl (List.map Alt.enc x.1))), (1, (.sl (List.map Alt.enc x.2.1))), (5, (.int .i64 x.2.2))] [] Q) ∧
  (∀ (x : ((List Dec) × (List Dec))) (r : Bool), M.laws_eqDecS x = some r → HCp P F.laws_eqDecS [(.sl (List.map Dec.enc x.1)), (.sl (List.map Dec.enc x.2))] (HV.bool r)) ∧
  (∀ (x : ((List Dec) × (List Dec) × Int)) (out : (Sum Bool Unit)), M.laws_eqDecS_L0 x = some out → ∀ Q : HExit → Env → St → Prop, (∀ v, out = .inr v → ∀ env st sel, Weak 0 sel [] [] env st → Q (.exit 0) env st) → (∀ r, out = .inl r → ∀ env st, RetP [(4, none)] (HV.bool r) env st → Q .ret env st) → SemL P H.laws_eqDecS.ntmps 0 H.laws_eqDecS_l5 [(0, (.sl (List.map Dec.enc x.1))), (1, (.sl (List.map Dec.enc x.2.1))), (5, (.int .i64 x.2.2))] [] Q) ∧
  (∀ (x : (Dec × Dec)) (r : Bool), M.laws_eqDec x = some r → HCp P F.laws_eqDec [(Dec.enc x.1), (Dec.enc x.2)] (HV.bool r)) ∧
  (∀ (x : ((List Exp) × (List Exp))) (r : Bool), M.laws_eqExpS x = some r → HCp P F.laws_eqExpS [(.sl (List.map Exp.enc x.1)), (.sl (List.map Exp.enc x.2))] (HV.bool r)) ∧
  (∀ (x : ((List Exp) × (List Exp) × Int)) (out : (Sum Bool Unit)), M.laws_eqExpS_L0 x = some out → ∀ Q : HExit → Env → St → Prop, (∀ v, out = .inr v → ∀ env st sel, Weak 0 sel [] [] env st → Q (.exit 0) env st) → (∀ r, out = .inl r → ∀ env st, RetP [(4, none)] (HV.bool r) env st → Q .ret env st) → SemL P H.laws_eqExpS.ntmps 0 H.laws_eqExpS_l5 [(0, (.sl (List.map Exp.enc x.1))), (1, (.sl (List.map Exp.enc x.2.1))), (5, (.int .i64 x.2.2))] [] Q) := by
  refine M.laws_eqAlt.mutual_partial_correctness (motive_1 := fun x r => HCp P F.laws_eqAlt [(Alt.enc x.1), (Alt.enc x.2)] (HV.bool r)) (motive_2 := fun x r => HCp P F.laws_eqExp [(Exp.enc x.1), (Exp.enc x.2)] (HV.bool r)) (motive_3 := fun x r => HCp P F.laws_eqAltS [(.sl (List.map Alt.enc x.1)), (.sl (List.map Alt.enc x.2))] (HV.bool r)) (motive_4 := fun x out => ∀ Q : HExit → Env → St → Prop, (∀ v, out = .inr v → ∀ env st sel, Weak 0 sel [] [] env st → Q (.exit 0) env st) → (∀ r, out = .inl r → ∀ env st, RetP [(4, none)] (HV.bool r) env st → Q .ret env st) → SemL P H.laws_eqAltS.ntmps 0 H.laws_eqAltS_l5 [(0, (.sl (List.map Alt.enc x.1))), (1, (.sl (List.map Alt.enc x.2.1))), (5, (.int .i64 x.2.2))] [] Q) (motive_5 := fun x r => HCp P F.laws_eqDecS [(.sl (List.map Dec.enc x.1)), (.sl (List.map Dec.enc x.2))] (HV.bool r)) (motive_6 := fun x out => ∀ Q : HExit → Env → St → Prop, (∀ v, out = .inr v → ∀ env st sel, Weak 0 sel [] [] env st → Q (.exit 0) env st) → (∀ r, out = .inl r → ∀ env st, RetP [(4, none)] (HV.bool r) env st → Q .ret env st) → SemL P H.laws_eqDecS.ntmps 0 H.laws_eqDecS_l5 [(0, (.sl (List.map Dec.enc x.1))), (1, (.sl (List.map Dec.enc x.2.1))), (5, (.int .i64 x.2.2))] [] Q) (motive_7 := fun x r => HCp P F.laws_eqDec [(Dec.enc x.1), (Dec.enc x.2)] (HV.bool r)) (motive_8 := fun x r => HCp P F.laws_eqExpS [(.sl (List.map Exp.enc x.1)), (.sl (List.map Exp.enc x.2))] (HV.bool r)) (motive_9 := fun x out => ∀ Q : HExit → Env → St → Prop, (∀ v, out = .inr v → ∀ env st sel, Weak 0 sel [] [] env st → Q (.exit 0) env st) → (∀ r, out = .inl r → ∀ env st, RetP [(4, none)] (HV.bool r) env st → Q .ret env st) → SemL P H.laws_eqExpS.ntmps 0 H.laws_eqExpS_l5 [(0, (.sl (List.map Exp.enc x.1))), (1, (.sl (List.map Exp.enc x.2.1))), (5, (.int .i64 x.2.2))] [] Q) ?_ ?_ ?_ ?_ ?_ ?_ ?_ ?_ ?_
  · exact fun f_laws_eqExp ih_laws_eqExp x r h => K.laws_eqAlt_step f_laws_eqExp ih_laws_eqExp x r h
  · exact fun f_laws_eqAltS f_laws_eqDecS f_laws_eqExpS ih_laws_eqAltS ih_laws_eqDecS ih_laws_eqExpS x r h => K.laws_eqExp_step f_laws_eqAltS f_laws_eqDecS f_laws_eqExpS ih_laws_eqAltS ih_laws_eqDecS ih_laws_eqExpS x r h
  · exact fun f_laws_eqAltS_L0 ih_laws_eqAltS_L0 x r h => K.laws_eqAltS_step f_laws_eqAltS_L0 ih_laws_eqAltS_L0 x r h
  · exact fun f_laws_eqAlt f_laws_eqAltS_L0 ih_laws_eqAlt ih_laws_eqAltS_L0 x out h => K.laws_eqAltS_L0_step f_laws_eqAlt f_laws_eqAltS_L0 ih_laws_eqAlt ih_laws_eqAltS_L0 x out h
  · exact fun f_laws_eqDecS_L0 ih_laws_eqDecS_L0 x r h => K.laws_eqDecS_step f_laws_eqDecS_L0 ih_laws_eqDecS_L0 x r h
  · exact fun f_laws_eqDecS_L0 f_laws_eqDec ih_laws_eqDecS_L0 ih_laws_eqDec x out h => K.laws_eqDecS_L0_step f_laws_eqDecS_L0 f_laws_eqDec ih_laws_eqDecS_L0 ih_laws_eqDec x out h
  · exact fun f_laws_eqExp f_laws_eqDecS ih_laws_eqExp ih_laws_eqDecS x r h => K.laws_eqDec_step f_laws_eqExp f_laws_eqDecS ih_laws_eqExp ih_laws_eqDecS x r h
  · exact fun f_laws_eqExpS_L0 ih_laws_eqExpS_L0 x r h => K.laws_eqExpS_step f_laws_eqExpS_L0 ih_laws_eqExpS_L0 x r h
  · exact fun f_laws_eqExp f_laws_eqExpS_L0 ih_laws_eqExp ih_laws_eqExpS_L0 x out h => K.laws_eqExpS_L0_step f_laws_eqExp f_laws_eqExpS_L0 ih_laws_eqExp ih_laws_eqExpS_L0 x out h
theorem laws_eqAlt : (∀ (x : (Alt × Alt)) (r : Bool), M.laws_eqAlt x = some r → HCp P F.laws_eqAlt [(Alt.enc x.1), (Alt.enc x.2)] (HV.bool r)) := K.laws_eqAlt_all.1
theorem laws_eqExp : (∀ (x : (Exp × Exp)) (r : Bool), M.laws_eqExp x = some r → HCp P F.laws_eqExp [(Exp.enc x.1), (Exp.enc x.2)] (HV.bool r)) := K.laws_eqAlt_all.2.1
theorem laws_eqAltS : (∀ (x : ((List Alt) × (List Alt))) (r : Bool), M.laws_eqAltS x = some r → HCp P F.laws_eqAltS [(.sl (List.map Alt.enc x.1)), (.sl (List.map Alt.enc x.2))] (HV.bool r)) := K.laws_eqAlt_all.2.2.1
theorem laws_eqAltS_L0 : (∀ (x : ((List Alt) × (List Alt) × Int)) (out : (Sum Bool Unit)), M.laws_eqAltS_L0 x = some out → ∀ Q : HExit → Env → St → Prop, (∀ v, out = .inr v → ∀ env st sel, Weak 0 sel [] [] env st → Q (.exit 0) env st) → (∀ r, out = .inl r → ∀ env st, RetP [(4, none)] (HV.bool r) env st → Q .ret env st) → SemL P H.laws_eqAltS.ntmps 0 H.laws_eqAltS_l5 [(0, (.sl (List.map Alt.enc x.1))), (1, (.sl (List.map Alt.enc x.2.1))), (5, (.int .i64 x.2.2))] [] Q) := K.laws_eqAlt_all.2.2.2.1
theorem laws_eqDecS : (∀ (x : ((List Dec) × (List Dec))) (r : Bool), M.laws_eqDecS x = some r → HCp P F.laws_eqDecS [(.sl (List.map Dec.enc x.1)), (.sl (List.map Dec.enc x.2))] (HV.bool r)) := K.laws_eqAlt_all.2.2.2.2.1
theorem laws_eqDecS_L0 : (∀ (x : ((List Dec) × (List Dec) × Int)) (out : (Sum Bool Unit)), M.laws_eqDecS_L0 x = some out → ∀ Q : HExit → Env → St → Prop, (∀ v, out = .inr v → ∀ env st sel, Weak 0 sel [] [] env st → Q (.exit 0) env st) → (∀ r, out = .inl r → ∀ env st, RetP [(4, none)] (HV.bool r) env st → Q .ret env st) → SemL P H.laws_eqDecS.ntmps 0 H.laws_eqDecS_l5 [(0, (.sl (List.map Dec.enc x.1))), (1, (.sl (List.map Dec.enc x.2.1))), (5, (.int .i64 x.2.2))] [] Q) := K.laws_eqAlt_all.2.2.2.2.2.1
theorem laws_eqDec : (∀ (x : (Dec × Dec)) (r : Bool), M.laws_eqDec x = some r → HCp P F.laws_eqDec [(Dec.enc x.1), (Dec.enc x.2)] (HV.bool r)) := K.laws_eqAlt_all.2.2.2.2.2.2.1
theorem laws_eqExpS : (∀ (x : ((List Exp) × (List Exp))) (r : Bool), M.laws_eqExpS x = some r → HCp P F.laws_eqExpS [(.sl (List.map Exp.enc x.1)), (.sl (List.map Exp.enc x.2))] (HV.bool r)) := K.laws_eqAlt_all.2.2.2.2.2.2.2.1
theorem laws_eqExpS_L0 : (∀ (x : ((List Exp) × (List Exp) × Int)) (out : (Sum Bool Unit)), M.laws_eqExpS_L0 x = some out → ∀ Q : HExit → Env → St → Prop, (∀ v, out = .inr v → ∀ env st sel, Weak 0 sel [] [] env st → Q (.exit 0) env st) → (∀ r, out = .inl r → ∀ env st, RetP [(4, none)] (HV.bool r) env st → Q .ret env st) → SemL P H.laws_eqExpS.ntmps 0 H.laws_eqExpS_l5 [(0, (.sl (List.map Exp.enc x.1))), (1, (.sl (List.map Exp.enc x.2.1))), (5, (.int .i64 x.2.2))] [] Q) := K.laws_eqAlt_all.2.2.2.2.2.2.2.2
theorem laws_eqProg : ∀ (x : (Prog × Prog)) (r : Bool), M.laws_eqProg x = some r → HCp P F.laws_eqProg [(Prog.enc x.1), (Prog.enc x.2)] (HV.bool r) := by
  intro x r h
  obtain ⟨p0, p1⟩ := x
  unfold M.laws_eqProg at h
  try dsimp only at h
  refine HCp.mkF S.laws_eqProg (by simp [H.laws_eqProg]) (by simp only [scT, esT, and_self, true_and, and_true]) ?_
  simp only [gE, ↓gT, ↓reduceIte, reduceCtorEq, reduceAdd, reduceEqDiff, reduceLeDiff, reduceLT, H.laws_eqProg]
  refine SemF.seq rfl ?_
  refine SemF.reg true rfl ?_
  try simp only [gE, ↓gT, ↓reduceIte, reduceCtorEq, reduceAdd, reduceEqDiff, reduceLeDiff, reduceLT]; (repeat intro (_ : _ ≤ lim))
  refine SemF.seq rfl ?_
  refine SemF.seq rfl ?_
  refine SemF.reg true rfl ?_
  try simp only [gE, ↓gT, ↓reduceIte, reduceCtorEq, reduceAdd, reduceEqDiff, reduceLeDiff, reduceLT]; (repeat intro (_ : _ ≤ lim))
  obtain ⟨r1, h_r1, h⟩ := bs h
  refine HCp.callE (K.laws_eqDataS (p0.Datas, p1.Datas) r1 h_r1) (by simp only [gE, ↓gT, ↓reduceIte, reduceCtorEq, reduceAdd, reduceEqDiff, reduceLeDiff, reduceLT]) (by simp only [scT, esT, and_self, true_and, and_true]) (by simp only [scT, esT, and_self, true_and, and_true]) ?_
  try simp only [gE, ↓gT, ↓reduceIte, reduceCtorEq, reduceAdd, reduceEqDiff, reduceLeDiff, reduceLT]; (repeat intro (_ : _ ≤ lim))
  by_cases hc2 : r1 = true
  · rw [if_pos hc2] at h
    refine SemF.cond rfl ?_
    simp only [gE, ↓gT, ↓reduceIte, reduceCtorEq, reduceAdd, reduceEqDiff, reduceLeDiff, reduceLT, hc2]
    refine SemF.skip rfl ?_
    simp only [gE, ↓gT, ↓reduceIte, reduceCtorEq, reduceAdd, reduceEqDiff, reduceLeDiff, reduceLT, hc2]
    refine SemF.seq rfl ?_
    refine SemF.seq rfl ?_
    refine SemF.reg true rfl ?_
    try simp only [gE, ↓gT, ↓reduceIte, reduceCtorEq, reduceAdd, reduceEqDiff, reduceLeDiff, reduceLT, hc2]; (repeat intro (_ : _ ≤ lim))
    obtain ⟨r3, h_r3, h⟩ := bs h
    refine HCp.callE (K.laws_eqDecS (p0.Decs, p1.Decs) r3 h_r3) (by simp only [gE, ↓gT, ↓reduceIte, reduceCtorEq, reduceAdd, reduceEqDiff, reduceLeDiff, reduceLT, hc2]) (by simp only [scT, esT, and_self, true_and, and_true]) (by simp only [scT, esT, and_self, true_and, and_true]) ?_
    try simp only [gE, ↓gT, ↓reduceIte, reduceCtorEq, reduceAdd, reduceEqDiff, reduceLeDiff, reduceLT, hc2]; (repeat intro (_ : _ ≤ lim))
    by_cases hc4 : r3 = true
    · rw [if_pos hc4] at h
      refine SemF.cond rfl ?_
      simp only [gE, ↓gT, ↓reduceIte, reduceCtorEq, reduceAdd, reduceEqDiff, reduceLeDiff, reduceLT, hc2, hc4]
      refine SemF.skip rfl ?_
      simp only [gE, ↓gT, ↓reduceIte, reduceCtorEq, reduceAdd, reduceEqDiff, reduceLeDiff, reduceLT, hc2, hc4]
      refine SemF.seq rfl ?_
      refine SemF.reg true rfl ?_
      try simp only [gE, ↓gT, ↓reduceIte, reduceCtorEq, reduceAdd, reduceEqDiff, reduceLeDiff, reduceLT, hc2, hc4]; (repeat intro (_ : _ ≤ lim))
      refine SemF.ret rfl ?_
      try simp only [gE, ↓gT, ↓reduceIte, reduceCtorEq, reduceAdd, reduceEqDiff, reduceLeDiff, reduceLT, hc2, hc4]; (repeat intro (_ : _ ≤ lim))
      obtain rfl := Option.some.inj h
      simp only [gE, ↓gT, ↓reduceIte, reduceCtorEq, reduceAdd, reduceEqDiff, reduceLeDiff, reduceLT, RetP_def, hc2, hc4]
    · rw [if_neg hc4] at h
      replace hc4 := eq_false_of_ne_true hc4
      refine SemF.cond rfl ?_
      simp only [gE, ↓gT, ↓reduceIte, reduceCtorEq, reduceAdd, reduceEqDiff, reduceLeDiff, reduceLT, hc2, hc4]
      refine SemF.seq rfl ?_
      refine SemF.reg true rfl ?_
      try simp only [gE, ↓gT, ↓reduceIte, reduceCtorEq, reduceAdd, reduceEqDiff, reduceLeDiff, reduceLT, hc2, hc4]; (repeat intro (_ : _ ≤ lim))
      refine SemF.ret rfl ?_
      try simp only [gE, ↓gT, ↓reduceIte, reduceCtorEq, reduceAdd, reduceEqDiff, reduceLeDiff, reduceLT, hc2, hc4]; (repeat intro (_ : _ ≤ lim))
      obtain rfl := Option.some.inj h
      simp only [gE, ↓gT, ↓reduceIte, reduceCtorEq, reduceAdd, reduceEqDiff, reduceLeDiff, reduceLT, RetP_def, hc2, hc4]
  · rw [if_neg hc2] at h
    replace hc2 := eq_false_of_ne_true hc2
    refine SemF.cond rfl ?_
    simp only [gE, ↓gT, ↓reduceIte, reduceCtorEq, reduceAdd, reduceEqDiff, reduceLeDiff, reduceLT, hc2]
    refine SemF.seq rfl ?_
    refine SemF.reg true rfl ?_
    try simp only [gE, ↓gT, ↓reduceIte, reduceCtorEq, reduceAdd, reduceEqDiff, reduceLeDiff, reduceLT, hc2]; (repeat intro (_ : _ ≤ lim))
    refine SemF.ret rfl ?_
    try simp only [gE, ↓gT, ↓reduceIte, reduceCtorEq, reduceAdd, reduceEqDiff, reduceLeDiff, reduceLT, hc2]; (repeat intro (_ : _ ≤ lim))
    obtain rfl := Option.some.inj h
    simp only [gE, ↓gT, ↓reduceIte, reduceCtorEq, reduceAdd, reduceEqDiff, reduceLeDiff, reduceLT, RetP_def, hc2]
theorem spec_SameTy_step (f_spec_SameTy_L0 : (Ty × Ty × Int) → Option (Sum Bool Unit)) (ih_spec_SameTy_L0 : ∀ (x : (Ty × Ty × Int)) (out : (Sum Bool Unit)), f_spec_SameTy_L0 x = some out → ∀ Q : HExit → Env → St → Prop, (∀ v, out = .inr v → ∀ env st sel, Weak 0 sel [] [] env st → Q (.exit 0) env st) → (∀ r, out = .inl r → ∀ env st, RetP [(4, none)] (HV.bool r) env st → Q .ret env st) → SemL P H.spec_SameTy.ntmps 0 H.spec_SameTy_l5 [(2, (.ptr 0 1 0 0)), (3, (.ptr 1 1 0 0)), (5, (.int .i64 x.2.2))] [(.box (Ty.enc x.1)), (.box (Ty.enc x.2.1))] Q) (x : (Ty × Ty)) (r : Bool) (h : (if x.1.K = x.2.K then (if x.1.S = x.2.S then (if x.1.N = x.2.N then (if ((x.1.L.length : Nat) : Int) = ((x.2.L.length : Nat) : Int) then (f_spec_SameTy_L0 (x.1, x.2, 0) >>= fun s15 =>
    (match s15 with
    | .inl r16 => some r16
    | .inr v17 => some true)) else
    some false) else
    some false) else
    some false) else
    some false) = some r) : HCp P F.spec_SameTy [(Ty.enc x.1), (Ty.enc x.2)] (HV.bool r) := by
  obtain ⟨p0, p1⟩ := x
  try dsimp only at h
  refine HCp.mkF S.spec_SameTy (by simp [H.spec_SameTy]) (by simp only [scT, esT, and_self, true_and, and_true]) ?_
  simp only [gE, ↓gT, ↓reduceIte, reduceCtorEq, reduceAdd, reduceEqDiff, reduceLeDiff, reduceLT, H.spec_SameTy]
  refine SemF.seq rfl ?_
  refine SemF.reg true rfl ?_
  try simp only [gE, ↓gT, ↓reduceIte, reduceCtorEq, reduceAdd, reduceEqDiff, reduceLeDiff, reduceLT]; (repeat intro (_ : _ ≤ lim))
  refine SemF.seq rfl ?_
  refine SemF.seq rfl ?_
  refine SemF.reg true rfl ?_
  try simp only [gE, ↓gT, ↓reduceIte, reduceCtorEq, reduceAdd, reduceEqDiff, reduceLeDiff, reduceLT]; (repeat intro (_ : _ ≤ lim))
  by_cases hc1 : p0.K = p1.K
  · rw [if_pos hc1] at h
    try simp only [gE, ↓gT, ↓reduceIte, reduceCtorEq, reduceAdd, reduceEqDiff, reduceLeDiff, reduceLT, eq_true hc1]; (repeat intro (_ : _ ≤ lim))
    by_cases hc2 : p0.S = p1.S
    · rw [if_pos hc2] at h
      try simp only [gE, ↓gT, ↓reduceIte, reduceCtorEq, reduceAdd, reduceEqDiff, reduceLeDiff, reduceLT, eq_true hc1, eq_true hc2]; (repeat intro (_ : _ ≤ lim))
      by_cases hc3 : p0.N = p1.N
      · rw [if_pos hc3] at h
        try simp only [gE, ↓gT, ↓reduceIte, reduceCtorEq, reduceAdd, reduceEqDiff, reduceLeDiff, reduceLT, eq_true hc1, eq_true hc2, eq_true hc3]; (repeat intro (_ : _ ≤ lim))
        (repeat intro (_ : _ ≤ lim))
        (repeat intro (_ : _ ≤ lim))
        by_cases hc4 : ((p0.L.length : Nat) : Int) = ((p1.L.length : Nat) : Int)
        · rw [if_pos hc4] at h
          refine SemF.cond rfl ?_
          simp only [gE, ↓gT, ↓reduceIte, reduceCtorEq, reduceAdd, reduceEqDiff, reduceLeDiff, reduceLT, eq_true hc1, eq_true hc2, eq_true hc3, eq_true hc4]
          refine SemF.skip rfl ?_
          simp only [gE, ↓gT, ↓reduceIte, reduceCtorEq, reduceAdd, reduceEqDiff, reduceLeDiff, reduceLT, eq_true hc1, eq_true hc2, eq_true hc3, eq_true hc4]
          refine SemF.seq rfl ?_
          refine SemF.seq rfl ?_
          refine SemF.reg true rfl ?_
          try simp only [gE, ↓gT, ↓reduceIte, reduceCtorEq, reduceAdd, reduceEqDiff, reduceLeDiff, reduceLT, eq_true hc1, eq_true hc2, eq_true hc3, eq_true hc4]; (repeat intro (_ : _ ≤ lim))
          refine SemF.block rfl ?_
          obtain ⟨s15, h_s15, h⟩ := bs h
          rcases s15 with r16 | v17
          · dsimp only at h
            refine SemF.loop rfl ?_
            refine SemL.weak (sel := [0, 1]) ⟨by simp only [gE, ↓gT, ↓reduceIte, reduceCtorEq, reduceAdd, reduceEqDiff, reduceLeDiff, reduceLT, hwT, selS, erT, eq_true hc1, eq_true hc2, eq_true hc3, eq_true hc4], by decide, by decide, by simp only [gE, ↓gT, ↓reduceIte, reduceCtorEq, reduceAdd, reduceEqDiff, reduceLeDiff, reduceLT, hwT, selS, erT, subR, eq_true hc1, eq_true hc2, eq_true hc3, eq_true hc4], by simp only [gE, ↓gT, ↓reduceIte, reduceCtorEq, reduceAdd, reduceEqDiff, reduceLeDiff, reduceLT, hwT, selS, erT, scT, esT, eq_true hc1, eq_true hc2, eq_true hc3, eq_true hc4], by simp only [gE, ↓gT, ↓reduceIte, reduceCtorEq, reduceAdd, reduceEqDiff, reduceLeDiff, reduceLT, hwT, selS, erT, scT, esT, eq_true hc1, eq_true hc2, eq_true hc3, eq_true hc4]⟩ (ih_spec_SameTy_L0 (p0, p1, 0) (.inl r16) h_s15 _ ?_ ?_)
            · intro v hv; cases hv
            · intro r' hr' env st hy
              cases hr'
              simp only [gE, ↓gT, ↓reduceIte, reduceCtorEq, reduceAdd, reduceEqDiff, reduceLeDiff, reduceLT]
              obtain rfl := Option.some.inj h
              exact hy
          · dsimp only at h
            refine SemF.loop rfl ?_
            refine SemL.weak (sel := [0, 1]) ⟨by simp only [gE, ↓gT, ↓reduceIte, reduceCtorEq, reduceAdd, reduceEqDiff, reduceLeDiff, reduceLT, hwT, selS, erT, eq_true hc1, eq_true hc2, eq_true hc3, eq_true hc4], by decide, by decide, by simp only [gE, ↓gT, ↓reduceIte, reduceCtorEq, reduceAdd, reduceEqDiff, reduceLeDiff, reduceLT, hwT, selS, erT, subR, eq_true hc1, eq_true hc2, eq_true hc3, eq_true hc4], by simp only [gE, ↓gT, ↓reduceIte, reduceCtorEq, reduceAdd, reduceEqDiff, reduceLeDiff, reduceLT, hwT, selS, erT, scT, esT, eq_true hc1, eq_true hc2, eq_true hc3, eq_true hc4], by simp only [gE, ↓gT, ↓reduceIte, reduceCtorEq, reduceAdd, reduceEqDiff, reduceLeDiff, reduceLT, hwT, selS, erT, scT, esT, eq_true hc1, eq_true hc2, eq_true hc3, eq_true hc4]⟩ (ih_spec_SameTy_L0 (p0, p1, 0) (.inr v17) h_s15 _ ?_ ?_)
            rotate_left
            · intro r' hr'; cases hr'
            intro v hv env st sel hw
            cases hv
            simp only [gE, ↓gT, ↓reduceIte, reduceCtorEq, reduceAdd, reduceEqDiff, reduceLeDiff, reduceLT]
            first | refine SemF.weak hw ?_ | refine SemL.weak hw ?_
            refine SemF.seq rfl ?_
            refine SemF.reg true rfl ?_
            try simp only [gE, ↓gT, ↓reduceIte, reduceCtorEq, reduceAdd, reduceEqDiff, reduceLeDiff, reduceLT, eq_true hc1, eq_true hc2, eq_true hc3, eq_true hc4]; (repeat intro (_ : _ ≤ lim))
            refine SemF.ret rfl ?_
            try simp only [gE, ↓gT, ↓reduceIte, reduceCtorEq, reduceAdd, reduceEqDiff, reduceLeDiff, reduceLT, eq_true hc1, eq_true hc2, eq_true hc3, eq_true hc4]; (repeat intro (_ : _ ≤ lim))
            obtain rfl := Option.some.inj h
            simp only [gE, ↓gT, ↓reduceIte, reduceCtorEq, reduceAdd, reduceEqDiff, reduceLeDiff, reduceLT, RetP_def, eq_true hc1, eq_true hc2, eq_true hc3, eq_true hc4]
        · rw [if_neg hc4] at h
          refine SemF.cond rfl ?_
          simp only [gE, ↓gT, ↓reduceIte, reduceCtorEq, reduceAdd, reduceEqDiff, reduceLeDiff, reduceLT, eq_true hc1, eq_true hc2, eq_true hc3, eq_false hc4]
          refine SemF.seq rfl ?_
          refine SemF.reg true rfl ?_
          try simp only [gE, ↓gT, ↓reduceIte, reduceCtorEq, reduceAdd, reduceEqDiff, reduceLeDiff, reduceLT, eq_true hc1, eq_true hc2, eq_true hc3, eq_false hc4]; (repeat intro (_ : _ ≤ lim))
          refine SemF.ret rfl ?_
          try simp only [gE, ↓gT, ↓reduceIte, reduceCtorEq, reduceAdd, reduceEqDiff, reduceLeDiff, reduceLT, eq_true hc1, eq_true hc2, eq_true hc3, eq_false hc4]; (repeat intro (_ : _ ≤ lim))
          obtain rfl := Option.some.inj h
          simp only [gE, ↓gT, ↓reduceIte, reduceCtorEq, reduceAdd, reduceEqDiff, reduceLeDiff, reduceLT, RetP_def, eq_true hc1, eq_true hc2, eq_true hc3, eq_false hc4]
      · rw [if_neg hc3] at h
        try simp only [gE, ↓gT, ↓reduceIte, reduceCtorEq, reduceAdd, reduceEqDiff, reduceLeDiff, reduceLT, eq_true hc1, eq_true hc2, eq_false hc3]; (repeat intro (_ : _ ≤ lim))
        refine SemF.cond rfl ?_
        simp only [gE, ↓gT, ↓reduceIte, reduceCtorEq, reduceAdd, reduceEqDiff, reduceLeDiff, reduceLT, eq_true hc1, eq_true hc2, eq_false hc3]
        refine SemF.seq rfl ?_
        refine SemF.reg true rfl ?_
        try simp only [gE, ↓gT, ↓reduceIte, reduceCtorEq, reduceAdd, reduceEqDiff, reduceLeDiff, reduceLT, eq_true hc1, eq_true hc2, eq_false hc3]; (repeat intro (_ : _ ≤ lim))
        refine SemF.ret rfl ?_
        try simp only [gE, ↓gT, ↓reduceIte, reduceCtorEq, reduceAdd, reduceEqDiff, reduceLeDiff, reduceLT, eq_true hc1, eq_true hc2, eq_false hc3]; (repeat intro (_ : _ ≤ lim))
        obtain rfl := Option.some.inj h
        simp only [gE, ↓gT, ↓reduceIte, reduceCtorEq, reduceAdd, reduceEqDiff, reduceLeDiff, reduceLT, RetP_def, eq_true hc1, eq_true hc2, eq_false hc3]
    · rw [if_neg hc2] at h
      try simp only [gE, ↓gT, ↓reduceIte, reduceCtorEq, reduceAdd, reduceEqDiff, reduceLeDiff, reduceLT, eq_true hc1, eq_false hc2]; (repeat intro (_ : _ ≤ lim))
      refine SemF.cond rfl ?_
      simp only [gE, ↓gT, ↓reduceIte, reduceCtorEq, reduceAdd, reduceEqDiff, reduceLeDiff, reduceLT, eq_true hc1, eq_false hc2]
      refine SemF.seq rfl ?_
      refine SemF.reg true rfl ?_
      try simp only [gE, ↓gT, ↓reduceIte, reduceCtorEq, reduceAdd, reduceEqDiff, reduceLeDiff, reduceLT, eq_true hc1, eq_false hc2]; (repeat intro (_ : _ ≤ lim))
      refine SemF.ret rfl ?_
      try simp only [gE, ↓gT, ↓reduceIte, reduceCtorEq, reduceAdd, reduceEqDiff, reduceLeDiff, reduceLT, eq_true hc1, eq_false hc2]; (repeat intro (_ : _ ≤ lim))
      obtain rfl := Option.some.inj h
      simp only [gE, ↓gT, ↓reduceIte, reduceCtorEq, reduceAdd, reduceEqDiff, reduceLeDiff, reduceLT, RetP_def, eq_true hc1, eq_false hc2]
  · rw [if_neg hc1] at h
    try simp only [gE, ↓gT, ↓reduceIte, reduceCtorEq, reduceAdd, reduceEqDiff, reduceLeDiff, reduceLT, eq_false hc1]; (repeat intro (_ : _ ≤ lim))
    refine SemF.cond rfl ?_
    simp only [gE, ↓gT, ↓reduceIte, reduceCtorEq, reduceAdd, reduceEqDiff, reduceLeDiff, reduceLT, eq_false hc1]
    refine SemF.seq rfl ?_
    refine SemF.reg true rfl ?_
    try simp only [gE, ↓gT, ↓reduceIte, reduceCtorEq, reduceAdd, reduceEqDiff, reduceLeDiff, reduceLT, eq_false hc1]; (repeat intro (_ : _ ≤ lim))
    refine SemF.ret rfl ?_
    try simp only [gE, ↓gT, ↓reduceIte, reduceCtorEq, reduceAdd, reduceEqDiff, reduceLeDiff, reduceLT, eq_false hc1]; (repeat intro (_ : _ ≤ lim))
    obtain rfl := Option.some.inj h
    simp only [gE, ↓gT, ↓reduceIte, reduceCtorEq, reduceAdd, reduceEqDiff, reduceLeDiff, reduceLT, RetP_def, eq_false hc1]
end K
end W
