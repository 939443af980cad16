import Derived.Test.YtnhdobhfebiggaaBPrf0
namespace W
set_option linter.unusedSimpArgs false
open Go HL S
set_option linter.unusedVariables false
set_option maxRecDepth 100000
set_option maxHeartbeats 4000000
namespace K
theorem laws_eqTyS_L0_step (f_laws_eqTy : (Ty × Ty) → Option Bool) (f_laws_eqTyS_L0 : ((List Ty) × (List Ty) × Int) → Option (Sum Bool Unit)) (ih_laws_eqTy : ∀ (x : (Ty × Ty)) (r : Bool), f_laws_eqTy x = some r → HCp P F.laws_eqTy [(Ty.enc x.1), (Ty.enc x.2)] (HV.bool r)) (ih_laws_eqTyS_L0 : ∀ (x : ((List Ty) × (List Ty) × Int)) (out : (Sum Bool Unit)), f_laws_eqTyS_L0 x = some out → ∀ Q : HExit → Env → St → Prop, (∀ v, out = .inr v → ∀ env st sel, Weak 0 sel [] [] env st → Q (.exit 0) env st) → (∀ r, out = .inl r → ∀ env st, RetP [(4, none)] (HV.bool r) env st → Q .ret env st) → SemL P H.laws_eqTyS.ntmps 0 H.laws_eqTyS_l5 [(0, (.sl (List.map Ty.enc x.1))), (1, (.sl (List.map Ty.enc x.2.1))), (5, (.int .i64 x.2.2))] [] Q) (x : ((List Ty) × (List Ty) × Int)) (out : (Sum Bool Unit)) (h : (if x.2.2 < ((x.1.length : Nat) : Int) then (ix x.1 x.2.2 >>= fun e8 =>
    (ix x.2.1 x.2.2 >>= fun e9 =>
    (f_laws_eqTy (e8, e9) >>= fun r10 =>
    (if r10 = true then f_laws_eqTyS_L0 (x.1, x.2.1, (IntKind.i64.wrap (x.2.2 + 1))) else
    some (.inl false))))) else
    some (.inr ())) = some out) : ∀ Q : HExit → Env → St → Prop, (∀ v, out = .inr v → ∀ env st sel, Weak 0 sel [] [] env st → Q (.exit 0) env st) → (∀ r, out = .inl r → ∀ env st, RetP [(4, none)] (HV.bool r) env st → Q .ret env st) → SemL P H.laws_eqTyS.ntmps 0 H.laws_eqTyS_l5 [(0, (.sl (List.map Ty.enc x.1))), (1, (.sl (List.map Ty.enc x.2.1))), (5, (.int .i64 x.2.2))] [] Q := by
  obtain ⟨p0, p1, t5_L0⟩ := x
  try dsimp only at h
  intro Q hx hr
  refine SemL.round ?_
  try dsimp only at hx
  refine SemF.seq rfl ?_
  refine SemF.seq rfl ?_
  refine SemF.reg true rfl ?_
  try simp only [hgT, ↓w_gt, ↓v_gf, ↓v_gu, ↓reduceIte, reduceCtorEq, Nat.reduceAdd, Nat.reduceEqDiff, Nat.reduceLeDiff, Nat.reduceSub, Nat.reduceMul, Nat.reduceLT, Scd, encT]; (repeat refine fun (_ : _ ≤ lim) => ?_)
  (repeat refine fun (_ : _ ≤ lim) => ?_)
  by_cases hc7 : t5_L0 < ((p0.length : Nat) : Int)
  · rw [if_pos hc7] at h
    refine SemF.cond rfl ?_
    simp only [hgT, ↓w_gt, ↓v_gf, ↓v_gu, ↓reduceIte, reduceCtorEq, Nat.reduceAdd, Nat.reduceEqDiff, Nat.reduceLeDiff, Nat.reduceSub, Nat.reduceMul, Nat.reduceLT, Scd, encT, eq_true hc7]
    refine SemF.skip rfl ?_
    simp only [hgT, ↓w_gt, ↓v_gf, ↓v_gu, ↓reduceIte, reduceCtorEq, Nat.reduceAdd, Nat.reduceEqDiff, Nat.reduceLeDiff, Nat.reduceSub, Nat.reduceMul, Nat.reduceLT, Scd, encT, eq_true hc7]
    refine SemF.seq rfl ?_
    refine SemF.block rfl ?_
    refine SemF.seq rfl ?_
    refine SemF.dreg true rfl ?_
    try simp only [hgT, ↓w_gt, ↓v_gf, ↓v_gu, ↓reduceIte, reduceCtorEq, Nat.reduceAdd, Nat.reduceEqDiff, Nat.reduceLeDiff, Nat.reduceSub, Nat.reduceMul, Nat.reduceLT, Scd, encT, eq_true hc7]; (repeat refine fun (_ : _ ≤ lim) => ?_)
    obtain ⟨e8, h_e8, h⟩ := bs h
    have m_e8 := ixm (f := Ty.enc) (ix_get h_e8)
    try simp only [hgT, ↓w_gt, ↓v_gf, ↓v_gu, ↓reduceIte, reduceCtorEq, Nat.reduceAdd, Nat.reduceEqDiff, Nat.reduceLeDiff, Nat.reduceSub, Nat.reduceMul, Nat.reduceLT, Scd, encT, eq_true hc7, eq_true (ix_nn h_e8), m_e8]; (repeat refine fun (_ : _ ≤ lim) => ?_)
    obtain ⟨e9, h_e9, h⟩ := bs h
    have m_e9 := ixm (f := Ty.enc) (ix_get h_e9)
    try simp only [hgT, ↓w_gt, ↓v_gf, ↓v_gu, ↓reduceIte, reduceCtorEq, Nat.reduceAdd, Nat.reduceEqDiff, Nat.reduceLeDiff, Nat.reduceSub, Nat.reduceMul, Nat.reduceLT, Scd, encT, eq_true hc7, eq_true (ix_nn h_e8), m_e8, eq_true (ix_nn h_e9), m_e9]; (repeat refine fun (_ : _ ≤ lim) => ?_)
    obtain ⟨r10, h_r10, h⟩ := bs h
    refine HCp.callE (ih_laws_eqTy (e8, e9) r10 h_r10) (by simp only [hgT, ↓w_gt, ↓v_gf, ↓v_gu, ↓reduceIte, reduceCtorEq, Nat.reduceAdd, Nat.reduceEqDiff, Nat.reduceLeDiff, Nat.reduceSub, Nat.reduceMul, Nat.reduceLT, Scd, encT, eq_true hc7, eq_true (ix_nn h_e8), m_e8, eq_true (ix_nn h_e9), m_e9]) (by simp only [scT, Scd, esT, and_self, true_and, and_true]) (by simp only [scT, Scd, esT, and_self, true_and, and_true]) ?_
    try simp only [hgT, ↓w_gt, ↓v_gf, ↓v_gu, ↓reduceIte, reduceCtorEq, Nat.reduceAdd, Nat.reduceEqDiff, Nat.reduceLeDiff, Nat.reduceSub, Nat.reduceMul, Nat.reduceLT, Scd, encT, eq_true hc7, eq_true (ix_nn h_e8), m_e8, eq_true (ix_nn h_e9), m_e9]; (repeat refine fun (_ : _ ≤ lim) => ?_)
    by_cases hc11 : r10 = true
    · rw [if_pos hc11] at h
      refine SemF.cond rfl ?_
      simp only [hgT, ↓w_gt, ↓v_gf, ↓v_gu, ↓reduceIte, reduceCtorEq, Nat.reduceAdd, Nat.reduceEqDiff, Nat.reduceLeDiff, Nat.reduceSub, Nat.reduceMul, Nat.reduceLT, Scd, encT, eq_true hc7, eq_true (ix_nn h_e8), m_e8, eq_true (ix_nn h_e9), m_e9, hc11]
      refine SemF.skip rfl ?_
      simp only [hgT, ↓w_gt, ↓v_gf, ↓v_gu, ↓reduceIte, reduceCtorEq, Nat.reduceAdd, Nat.reduceEqDiff, Nat.reduceLeDiff, Nat.reduceSub, Nat.reduceMul, Nat.reduceLT, Scd, encT, eq_true hc7, eq_true (ix_nn h_e8), m_e8, eq_true (ix_nn h_e9), m_e9, hc11]
      refine SemF.reg true rfl ?_
      try simp only [hgT, ↓w_gt, ↓v_gf, ↓v_gu, ↓reduceIte, reduceCtorEq, Nat.reduceAdd, Nat.reduceEqDiff, Nat.reduceLeDiff, Nat.reduceSub, Nat.reduceMul, Nat.reduceLT, Scd, encT, eq_true hc7, eq_true (ix_nn h_e8), m_e8, eq_true (ix_nn h_e9), m_e9, hc11]; (repeat refine fun (_ : _ ≤ lim) => ?_)
      refine SemL.weak (sel := []) ⟨by simp only [hgT, ↓w_gt, ↓v_gf, ↓v_gu, ↓reduceIte, reduceCtorEq, Nat.reduceAdd, Nat.reduceEqDiff, Nat.reduceLeDiff, Nat.reduceSub, Nat.reduceMul, Nat.reduceLT, Scd, encT, hwT, selS, erT, eq_true hc7, eq_true (ix_nn h_e8), m_e8, eq_true (ix_nn h_e9), m_e9, hc11], by decide, by decide, by simp only [hgT, ↓w_gt, ↓v_gf, ↓v_gu, ↓reduceIte, reduceCtorEq, Nat.reduceAdd, Nat.reduceEqDiff, Nat.reduceLeDiff, Nat.reduceSub, Nat.reduceMul, Nat.reduceLT, Scd, encT, hwT, selS, erT, subR, eq_true hc7, eq_true (ix_nn h_e8), m_e8, eq_true (ix_nn h_e9), m_e9, hc11], by simp only [hgT, ↓w_gt, ↓v_gf, ↓v_gu, ↓reduceIte, reduceCtorEq, Nat.reduceAdd, Nat.reduceEqDiff, Nat.reduceLeDiff, Nat.reduceSub, Nat.reduceMul, Nat.reduceLT, Scd, encT, hwT, selS, erT, scT, Scd, esT, eq_true hc7, eq_true (ix_nn h_e8), m_e8, eq_true (ix_nn h_e9), m_e9, hc11], by simp only [hgT, ↓w_gt, ↓v_gf, ↓v_gu, ↓reduceIte, reduceCtorEq, Nat.reduceAdd, Nat.reduceEqDiff, Nat.reduceLeDiff, Nat.reduceSub, Nat.reduceMul, Nat.reduceLT, Scd, encT, hwT, selS, erT, scT, Scd, esT, eq_true hc7, eq_true (ix_nn h_e8), m_e8, eq_true (ix_nn h_e9), m_e9, hc11]⟩ (ih_laws_eqTyS_L0 (p0, p1, (IntKind.i64.wrap (t5_L0 + 1))) out h Q hx hr)
    · rw [if_neg hc11] at h
      replace hc11 := eq_false_of_ne_true hc11
      refine SemF.cond rfl ?_
      simp only [hgT, ↓w_gt, ↓v_gf, ↓v_gu, ↓reduceIte, reduceCtorEq, Nat.reduceAdd, Nat.reduceEqDiff, Nat.reduceLeDiff, Nat.reduceSub, Nat.reduceMul, Nat.reduceLT, Scd, encT, eq_true hc7, eq_true (ix_nn h_e8), m_e8, eq_true (ix_nn h_e9), m_e9, hc11]
      refine SemF.seq rfl ?_
      refine SemF.reg true rfl ?_
      try simp only [hgT, ↓w_gt, ↓v_gf, ↓v_gu, ↓reduceIte, reduceCtorEq, Nat.reduceAdd, Nat.reduceEqDiff, Nat.reduceLeDiff, Nat.reduceSub, Nat.reduceMul, Nat.reduceLT, Scd, encT, eq_true hc7, eq_true (ix_nn h_e8), m_e8, eq_true (ix_nn h_e9), m_e9, hc11]; (repeat refine fun (_ : _ ≤ lim) => ?_)
      refine SemF.ret rfl ?_
      try simp only [hgT, ↓w_gt, ↓v_gf, ↓v_gu, ↓reduceIte, reduceCtorEq, Nat.reduceAdd, Nat.reduceEqDiff, Nat.reduceLeDiff, Nat.reduceSub, Nat.reduceMul, Nat.reduceLT, Scd, encT, eq_true hc7, eq_true (ix_nn h_e8), m_e8, eq_true (ix_nn h_e9), m_e9, hc11]; (repeat refine fun (_ : _ ≤ lim) => ?_)
      obtain rfl := Option.some.inj h
      refine hr _ rfl _ _ ?_
      simp only [hgT, ↓w_gt, ↓v_gf, ↓v_gu, ↓reduceIte, reduceCtorEq, Nat.reduceAdd, Nat.reduceEqDiff, Nat.reduceLeDiff, Nat.reduceSub, Nat.reduceMul, Nat.reduceLT, Scd, encT, RetP_def, eq_true hc7, eq_true (ix_nn h_e8), m_e8, eq_true (ix_nn h_e9), m_e9, hc11]
  · rw [if_neg hc7] at h
    refine SemF.cond rfl ?_
    simp only [hgT, ↓w_gt, ↓v_gf, ↓v_gu, ↓reduceIte, reduceCtorEq, Nat.reduceAdd, Nat.reduceEqDiff, Nat.reduceLeDiff, Nat.reduceSub, Nat.reduceMul, Nat.reduceLT, Scd, encT, eq_false hc7]
    refine SemF.exit rfl ?_
    simp only [hgT, ↓w_gt, ↓v_gf, ↓v_gu, ↓reduceIte, reduceCtorEq, Nat.reduceAdd, Nat.reduceEqDiff, Nat.reduceLeDiff, Nat.reduceSub, Nat.reduceMul, Nat.reduceLT, Scd, encT, eq_false hc7]
    obtain rfl := Option.some.inj h
    refine hx _ rfl _ _ [] ⟨by simp only [hgT, ↓w_gt, ↓v_gf, ↓v_gu, ↓reduceIte, reduceCtorEq, Nat.reduceAdd, Nat.reduceEqDiff, Nat.reduceLeDiff, Nat.reduceSub, Nat.reduceMul, Nat.reduceLT, Scd, encT, hwT, selS, erT, eq_false hc7], by decide, by decide, by simp only [hgT, ↓w_gt, ↓v_gf, ↓v_gu, ↓reduceIte, reduceCtorEq, Nat.reduceAdd, Nat.reduceEqDiff, Nat.reduceLeDiff, Nat.reduceSub, Nat.reduceMul, Nat.reduceLT, Scd, encT, hwT, selS, erT, subR, eq_false hc7], by simp only [hgT, ↓w_gt, ↓v_gf, ↓v_gu, ↓reduceIte, reduceCtorEq, Nat.reduceAdd, Nat.reduceEqDiff, Nat.reduceLeDiff, Nat.reduceSub, Nat.reduceMul, Nat.reduceLT, Scd, encT, hwT, selS, erT, scT, Scd, esT, eq_false hc7], by simp only [hgT, ↓w_gt, ↓v_gf, ↓v_gu, ↓reduceIte, reduceCtorEq, Nat.reduceAdd, Nat.reduceEqDiff, Nat.reduceLeDiff, Nat.reduceSub, Nat.reduceMul, Nat.reduceLT, Scd, encT, hwT, selS, erT, scT, Scd, esT, eq_false hc7]⟩
theorem laws_eqTy_all : (∀ (x : (Ty × Ty)) (r : Bool), M.laws_eqTy x = some r → HCp P F.laws_eqTy [(Ty.enc x.1), (Ty.enc x.2)] (HV.bool r)) ∧
  (∀ (x : ((List Ty) × (List Ty))) (r : Bool), M.laws_eqTyS x = some r → HCp P F.laws_eqTyS [(.sl (List.map Ty.enc x.1)), (.sl (List.map Ty.enc x.2))] (HV.bool r)) ∧
  (∀ (x : ((List Ty) × (List Ty) × Int)) (out : (Sum Bool Unit)), M.laws_eqTyS_L0 x = some out → ∀ Q : HExit → Env → St → Prop, (∀ v, out = .inr v → ∀ env st sel, Weak 0 sel [] [] env st → Q (.exit 0) env st) → (∀ r, out = .inl r → ∀ env st, RetP [(4, none)] (HV.bool r) env st → Q .ret env st) → SemL P H.laws_eqTyS.ntmps 0 H.laws_eqTyS_l5 [(0, (.sl (List.map Ty.enc x.1))), (1, (.sl (List.map Ty.enc x.2.1))), (5, (.int .i64 x.2.2))] [] Q) := by
  refine M.laws_eqTy.mutual_partial_correctness (motive_1 := fun x r => HCp P F.laws_eqTy [(Ty.enc x.1), (Ty.enc x.2)] (HV.bool r)) (motive_2 := fun x r => HCp P F.laws_eqTyS [(.sl (List.map Ty.enc x.1)), (.sl (List.map Ty.enc x.2))] (HV.bool r)) (motive_3 := fun x out => ∀ Q : HExit → Env → St → Prop, (∀ v, out = .inr v → ∀ env st sel, Weak 0 sel [] [] env st → Q (.exit 0) env st) → (∀ r, out = .inl r → ∀ env st, RetP [(4, none)] (HV.bool r) env st → Q .ret env st) → SemL P H.laws_eqTyS.ntmps 0 H.laws_eqTyS_l5 [(0, (.sl (List.map Ty.enc x.1))), (1, (.sl (List.map Ty.enc x.2.1))), (5, (.int .i64 x.2.2))] [] Q) ?_ ?_ ?_
  · exact fun f_laws_eqTyS ih_laws_eqTyS x r h => K.laws_eqTy_step f_laws_eqTyS ih_laws_eqTyS x r h
  · exact fun f_laws_eqTyS_L0 ih_laws_eqTyS_L0 x r h => K.laws_eqTyS_step f_laws_eqTyS_L0 ih_laws_eqTyS_L0 x r h
  · exact fun f_laws_eqTy f_laws_eqTyS_L0 ih_laws_eqTy ih_laws_eqTyS_L0 x out h => K.laws_eqTyS_L0_step f_laws_eqTy f_laws_eqTyS_L0 ih_laws_eqTy ih_laws_eqTyS_L0 x out h
theorem laws_eqTy : (∀ (x : (Ty × Ty)) (r : Bool), M.laws_eqTy x = some r → HCp P F.laws_eqTy [(Ty.enc x.1), (Ty.enc x.2)] (HV.bool r)) := K.laws_eqTy_all.1
theorem laws_eqTyS : (∀ (x : ((List Ty) × (List Ty))) (r : Bool), M.laws_eqTyS x = some r → HCp P F.laws_eqTyS [(.sl (List.map Ty.enc x.1)), (.sl (List.map Ty.enc x.2))] (HV.bool r)) := K.laws_eqTy_all.2.1
theorem laws_eqTyS_L0 : (∀ (x : ((List Ty) × (List Ty) × Int)) (out : (Sum Bool Unit)), M.laws_eqTyS_L0 x = some out → ∀ Q : HExit → Env → St → Prop, (∀ v, out = .inr v → ∀ env st sel, Weak 0 sel [] [] env st → Q (.exit 0) env st) → (∀ r, out = .inl r → ∀ env st, RetP [(4, none)] (HV.bool r) env st → Q .ret env st) → SemL P H.laws_eqTyS.ntmps 0 H.laws_eqTyS_l5 [(0, (.sl (List.map Ty.enc x.1))), (1, (.sl (List.map Ty.enc x.2.1))), (5, (.int .i64 x.2.2))] [] Q) := K.laws_eqTy_all.2.2
theorem laws_szTy_step (f_laws_szTyS : ((List Ty) × Int) → Option Int) (ih_laws_szTyS : ∀ (x : ((List Ty) × Int)) (r : Int), f_laws_szTyS x = some r → HCp P F.laws_szTyS [(.sl (List.map Ty.enc x.1)), (.int .i64 x.2)] (HV.int .i64 r)) (x : (Ty × Int)) (r : Int) (h : (if (IntKind.i64.wrap (x.2 - ((x.1.S.size : Nat) : Int))) < 0 then some (-1) else
    (f_laws_szTyS (x.1.L, (IntKind.i64.wrap (x.2 - ((x.1.S.size : Nat) : Int)))) >>= fun r2 =>
    (if r2 < 0 then some (-1) else
    some r2))) = some r) : HCp P F.laws_szTy [(Ty.enc x.1), (.int .i64 x.2)] (HV.int .i64 r) := by
  obtain ⟨p0, p1⟩ := x
  try dsimp only at h
  refine HCp.mkF S.laws_szTy (by simp [H.laws_szTy]) (by simp only [scT, Scd, esT, and_self, true_and, and_true]) ?_
  simp only [hgT, ↓w_gt, ↓v_gf, ↓v_gu, ↓reduceIte, reduceCtorEq, Nat.reduceAdd, Nat.reduceEqDiff, Nat.reduceLeDiff, Nat.reduceSub, Nat.reduceMul, Nat.reduceLT, Scd, encT, H.laws_szTy]
  refine SemF.seq rfl ?_
  refine SemF.reg true rfl ?_
  try simp only [hgT, ↓w_gt, ↓v_gf, ↓v_gu, ↓reduceIte, reduceCtorEq, Nat.reduceAdd, Nat.reduceEqDiff, Nat.reduceLeDiff, Nat.reduceSub, Nat.reduceMul, Nat.reduceLT, Scd, encT]; (repeat refine fun (_ : _ ≤ lim) => ?_)
  refine SemF.seq rfl ?_
  refine SemF.reg true rfl ?_
  try simp only [hgT, ↓w_gt, ↓v_gf, ↓v_gu, ↓reduceIte, reduceCtorEq, Nat.reduceAdd, Nat.reduceEqDiff, Nat.reduceLeDiff, Nat.reduceSub, Nat.reduceMul, Nat.reduceLT, Scd, encT]; (repeat refine fun (_ : _ ≤ lim) => ?_)
  (repeat refine fun (_ : _ ≤ lim) => ?_)
  refine SemF.seq rfl ?_
  refine SemF.seq rfl ?_
  refine SemF.reg true rfl ?_
  try simp only [hgT, ↓w_gt, ↓v_gf, ↓v_gu, ↓reduceIte, reduceCtorEq, Nat.reduceAdd, Nat.reduceEqDiff, Nat.reduceLeDiff, Nat.reduceSub, Nat.reduceMul, Nat.reduceLT, Scd, encT]; (repeat refine fun (_ : _ ≤ lim) => ?_)
  by_cases hc1 : (IntKind.i64.wrap (p1 - ((p0.S.size : Nat) : Int))) < 0
  · rw [if_pos hc1] at h
    refine SemF.cond rfl ?_
    simp only [hgT, ↓w_gt, ↓v_gf, ↓v_gu, ↓reduceIte, reduceCtorEq, Nat.reduceAdd, Nat.reduceEqDiff, Nat.reduceLeDiff, Nat.reduceSub, Nat.reduceMul, Nat.reduceLT, Scd, encT, eq_true hc1]
    refine SemF.seq rfl ?_
    refine SemF.reg true rfl ?_
    try simp only [hgT, ↓w_gt, ↓v_gf, ↓v_gu, ↓reduceIte, reduceCtorEq, Nat.reduceAdd, Nat.reduceEqDiff, Nat.reduceLeDiff, Nat.reduceSub, Nat.reduceMul, Nat.reduceLT, Scd, encT, eq_true hc1]; (repeat refine fun (_ : _ ≤ lim) => ?_)
    refine SemF.ret rfl ?_
    try simp only [hgT, ↓w_gt, ↓v_gf, ↓v_gu, ↓reduceIte, reduceCtorEq, Nat.reduceAdd, Nat.reduceEqDiff, Nat.reduceLeDiff, Nat.reduceSub, Nat.reduceMul, Nat.reduceLT, Scd, encT, eq_true hc1]; (repeat refine fun (_ : _ ≤ lim) => ?_)
    obtain rfl := Option.some.inj h
    simp only [hgT, ↓w_gt, ↓v_gf, ↓v_gu, ↓reduceIte, reduceCtorEq, Nat.reduceAdd, Nat.reduceEqDiff, Nat.reduceLeDiff, Nat.reduceSub, Nat.reduceMul, Nat.reduceLT, Scd, encT, RetP_def, eq_true hc1]
  · rw [if_neg hc1] at h
    refine SemF.cond rfl ?_
    simp only [hgT, ↓w_gt, ↓v_gf, ↓v_gu, ↓reduceIte, reduceCtorEq, Nat.reduceAdd, Nat.reduceEqDiff, Nat.reduceLeDiff, Nat.reduceSub, Nat.reduceMul, Nat.reduceLT, Scd, encT, eq_false hc1]
    refine SemF.skip rfl ?_
    simp only [hgT, ↓w_gt, ↓v_gf, ↓v_gu, ↓reduceIte, reduceCtorEq, Nat.reduceAdd, Nat.reduceEqDiff, Nat.reduceLeDiff, Nat.reduceSub, Nat.reduceMul, Nat.reduceLT, Scd, encT, eq_false hc1]
    refine SemF.seq rfl ?_
    refine SemF.reg true rfl ?_
    try simp only [hgT, ↓w_gt, ↓v_gf, ↓v_gu, ↓reduceIte, reduceCtorEq, Nat.reduceAdd, Nat.reduceEqDiff, Nat.reduceLeDiff, Nat.reduceSub, Nat.reduceMul, Nat.reduceLT, Scd, encT, eq_false hc1]; (repeat refine fun (_ : _ ≤ lim) => ?_)
    obtain ⟨r2, h_r2, h⟩ := bs h
    refine HCp.callE (ih_laws_szTyS (p0.L, (IntKind.i64.wrap (p1 - ((p0.S.size : Nat) : Int)))) r2 h_r2) (by simp only [hgT, ↓w_gt, ↓v_gf, ↓v_gu, ↓reduceIte, reduceCtorEq, Nat.reduceAdd, Nat.reduceEqDiff, Nat.reduceLeDiff, Nat.reduceSub, Nat.reduceMul, Nat.reduceLT, Scd, encT, eq_false hc1]) (by simp only [scT, Scd, esT, and_self, true_and, and_true]) (by simp only [scT, Scd, esT, and_self, true_and, and_true]) ?_
    try simp only [hgT, ↓w_gt, ↓v_gf, ↓v_gu, ↓reduceIte, reduceCtorEq, Nat.reduceAdd, Nat.reduceEqDiff, Nat.reduceLeDiff, Nat.reduceSub, Nat.reduceMul, Nat.reduceLT, Scd, encT, eq_false hc1]; (repeat refine fun (_ : _ ≤ lim) => ?_)
    refine SemF.seq rfl ?_
    refine SemF.seq rfl ?_
    refine SemF.reg true rfl ?_
    try simp only [hgT, ↓w_gt, ↓v_gf, ↓v_gu, ↓reduceIte, reduceCtorEq, Nat.reduceAdd, Nat.reduceEqDiff, Nat.reduceLeDiff, Nat.reduceSub, Nat.reduceMul, Nat.reduceLT, Scd, encT, eq_false hc1]; (repeat refine fun (_ : _ ≤ lim) => ?_)
    by_cases hc3 : r2 < 0
    · rw [if_pos hc3] at h
      refine SemF.cond rfl ?_
      simp only [hgT, ↓w_gt, ↓v_gf, ↓v_gu, ↓reduceIte, reduceCtorEq, Nat.reduceAdd, Nat.reduceEqDiff, Nat.reduceLeDiff, Nat.reduceSub, Nat.reduceMul, Nat.reduceLT, Scd, encT, eq_false hc1, eq_true hc3]
      refine SemF.seq rfl ?_
      refine SemF.reg true rfl ?_
      try simp only [hgT, ↓w_gt, ↓v_gf, ↓v_gu, ↓reduceIte, reduceCtorEq, Nat.reduceAdd, Nat.reduceEqDiff, Nat.reduceLeDiff, Nat.reduceSub, Nat.reduceMul, Nat.reduceLT, Scd, encT, eq_false hc1, eq_true hc3]; (repeat refine fun (_ : _ ≤ lim) => ?_)
      refine SemF.ret rfl ?_
      try simp only [hgT, ↓w_gt, ↓v_gf, ↓v_gu, ↓reduceIte, reduceCtorEq, Nat.reduceAdd, Nat.reduceEqDiff, Nat.reduceLeDiff, Nat.reduceSub, Nat.reduceMul, Nat.reduceLT, Scd, encT, eq_false hc1, eq_true hc3]; (repeat refine fun (_ : _ ≤ lim) => ?_)
      obtain rfl := Option.some.inj h
      simp only [hgT, ↓w_gt, ↓v_gf, ↓v_gu, ↓reduceIte, reduceCtorEq, Nat.reduceAdd, Nat.reduceEqDiff, Nat.reduceLeDiff, Nat.reduceSub, Nat.reduceMul, Nat.reduceLT, Scd, encT, RetP_def, eq_false hc1, eq_true hc3]
    · rw [if_neg hc3] at h
      refine SemF.cond rfl ?_
      simp only [hgT, ↓w_gt, ↓v_gf, ↓v_gu, ↓reduceIte, reduceCtorEq, Nat.reduceAdd, Nat.reduceEqDiff, Nat.reduceLeDiff, Nat.reduceSub, Nat.reduceMul, Nat.reduceLT, Scd, encT, eq_false hc1, eq_false hc3]
      refine SemF.skip rfl ?_
      simp only [hgT, ↓w_gt, ↓v_gf, ↓v_gu, ↓reduceIte, reduceCtorEq, Nat.reduceAdd, Nat.reduceEqDiff, Nat.reduceLeDiff, Nat.reduceSub, Nat.reduceMul, Nat.reduceLT, Scd, encT, eq_false hc1, eq_false hc3]
      refine SemF.seq rfl ?_
      refine SemF.reg true rfl ?_
      try simp only [hgT, ↓w_gt, ↓v_gf, ↓v_gu, ↓reduceIte, reduceCtorEq, Nat.reduceAdd, Nat.reduceEqDiff, Nat.reduceLeDiff, Nat.reduceSub, Nat.reduceMul, Nat.reduceLT, Scd, encT, eq_false hc1, eq_false hc3]; (repeat refine fun (_ : _ ≤ lim) => ?_)
      refine SemF.ret rfl ?_
      try simp only [hgT, ↓w_gt, ↓v_gf, ↓v_gu, ↓reduceIte, reduceCtorEq, Nat.reduceAdd, Nat.reduceEqDiff, Nat.reduceLeDiff, Nat.reduceSub, Nat.reduceMul, Nat.reduceLT, Scd, encT, eq_false hc1, eq_false hc3]; (repeat refine fun (_ : _ ≤ lim) => ?_)
      obtain rfl := Option.some.inj h
      simp only [hgT, ↓w_gt, ↓v_gf, ↓v_gu, ↓reduceIte, reduceCtorEq, Nat.reduceAdd, Nat.reduceEqDiff, Nat.reduceLeDiff, Nat.reduceSub, Nat.reduceMul, Nat.reduceLT, Scd, encT, RetP_def, eq_false hc1, eq_false hc3]
theorem laws_szTyS_step (f_laws_szTyS_L0 : ((List Ty) × Int × Int) → Option (Sum Int Int)) (ih_laws_szTyS_L0 : ∀ (x : ((List Ty) × Int × Int)) (out : (Sum Int Int)), f_laws_szTyS_L0 x = some out → ∀ Q : HExit → Env → St → Prop, (∀ v, out = .inr v → ∀ env st sel, Weak 0 sel [(1, (.int .i64 v))] [] env st → Q (.exit 0) env st) → (∀ r, out = .inl r → ∀ env st, RetP [(4, none)] (HV.int .i64 r) env st → Q .ret env st) → SemL P H.laws_szTyS.ntmps 0 H.laws_szTyS_l6 [(0, (.sl (List.map Ty.enc x.1))), (1, (.int .i64 x.2.1)), (5, (.int .i64 x.2.2))] [] Q) (x : ((List Ty) × Int)) (r : Int) (h : (if (IntKind.i64.wrap (x.2 - ((x.1.length : Nat) : Int))) < 0 then some (-1) else
    (f_laws_szTyS_L0 (x.1, (IntKind.i64.wrap (x.2 - ((x.1.length : Nat) : Int))), 0) >>= fun s10 =>
    (match s10 with
    | .inl r11 => some r11
    | .inr v12 => some v12))) = some r) : HCp P F.laws_szTyS [(.sl (List.map Ty.enc x.1)), (.int .i64 x.2)] (HV.int .i64 r) := by
  obtain ⟨p0, p1⟩ := x
  try dsimp only at h
  refine HCp.mkF S.laws_szTyS (by simp [H.laws_szTyS]) (by simp only [scT, Scd, esT, and_self, true_and, and_true]) ?_
  simp only [hgT, ↓w_gt, ↓v_gf, ↓v_gu, ↓reduceIte, reduceCtorEq, Nat.reduceAdd, Nat.reduceEqDiff, Nat.reduceLeDiff, Nat.reduceSub, Nat.reduceMul, Nat.reduceLT, Scd, encT, H.laws_szTyS]
  refine SemF.seq rfl ?_
  refine SemF.reg true rfl ?_
  try simp only [hgT, ↓w_gt, ↓v_gf, ↓v_gu, ↓reduceIte, reduceCtorEq, Nat.reduceAdd, Nat.reduceEqDiff, Nat.reduceLeDiff, Nat.reduceSub, Nat.reduceMul, Nat.reduceLT, Scd, encT]; (repeat refine fun (_ : _ ≤ lim) => ?_)
  refine SemF.seq rfl ?_
  refine SemF.reg true rfl ?_
  try simp only [hgT, ↓w_gt, ↓v_gf, ↓v_gu, ↓reduceIte, reduceCtorEq, Nat.reduceAdd, Nat.reduceEqDiff, Nat.reduceLeDiff, Nat.reduceSub, Nat.reduceMul, Nat.reduceLT, Scd, encT]; (repeat refine fun (_ : _ ≤ lim) => ?_)
  (repeat refine fun (_ : _ ≤ lim) => ?_)
  refine SemF.seq rfl ?_
  refine SemF.seq rfl ?_
  refine SemF.reg true rfl ?_
  try simp only [hgT, ↓w_gt, ↓v_gf, ↓v_gu, ↓reduceIte, reduceCtorEq, Nat.reduceAdd, Nat.reduceEqDiff, Nat.reduceLeDiff, Nat.reduceSub, Nat.reduceMul, Nat.reduceLT, Scd, encT]; (repeat refine fun (_ : _ ≤ lim) => ?_)
  by_cases hc1 : (IntKind.i64.wrap (p1 - ((p0.length : Nat) : Int))) < 0
  · rw [if_pos hc1] at h
    refine SemF.cond rfl ?_
    simp only [hgT, ↓w_gt, ↓v_gf, ↓v_gu, ↓reduceIte, reduceCtorEq, Nat.reduceAdd, Nat.reduceEqDiff, Nat.reduceLeDiff, Nat.reduceSub, Nat.reduceMul, Nat.reduceLT, Scd, encT, eq_true hc1]
    refine SemF.seq rfl ?_
    refine SemF.reg true rfl ?_
    try simp only [hgT, ↓w_gt, ↓v_gf, ↓v_gu, ↓reduceIte, reduceCtorEq, Nat.reduceAdd, Nat.reduceEqDiff, Nat.reduceLeDiff, Nat.reduceSub, Nat.reduceMul, Nat.reduceLT, Scd, encT, eq_true hc1]; (repeat refine fun (_ : _ ≤ lim) => ?_)
    refine SemF.ret rfl ?_
    try simp only [hgT, ↓w_gt, ↓v_gf, ↓v_gu, ↓reduceIte, reduceCtorEq, Nat.reduceAdd, Nat.reduceEqDiff, Nat.reduceLeDiff, Nat.reduceSub, Nat.reduceMul, Nat.reduceLT, Scd, encT, eq_true hc1]; (repeat refine fun (_ : _ ≤ lim) => ?_)
    obtain rfl := Option.some.inj h
    simp only [hgT, ↓w_gt, ↓v_gf, ↓v_gu, ↓reduceIte, reduceCtorEq, Nat.reduceAdd, Nat.reduceEqDiff, Nat.reduceLeDiff, Nat.reduceSub, Nat.reduceMul, Nat.reduceLT, Scd, encT, RetP_def, eq_true hc1]
  · rw [if_neg hc1] at h
    refine SemF.cond rfl ?_
    simp only [hgT, ↓w_gt, ↓v_gf, ↓v_gu, ↓reduceIte, reduceCtorEq, Nat.reduceAdd, Nat.reduceEqDiff, Nat.reduceLeDiff, Nat.reduceSub, Nat.reduceMul, Nat.reduceLT, Scd, encT, eq_false hc1]
    refine SemF.skip rfl ?_
    simp only [hgT, ↓w_gt, ↓v_gf, ↓v_gu, ↓reduceIte, reduceCtorEq, Nat.reduceAdd, Nat.reduceEqDiff, Nat.reduceLeDiff, Nat.reduceSub, Nat.reduceMul, Nat.reduceLT, Scd, encT, eq_false hc1]
    refine SemF.seq rfl ?_
    refine SemF.seq rfl ?_
    refine SemF.reg true rfl ?_
    try simp only [hgT, ↓w_gt, ↓v_gf, ↓v_gu, ↓reduceIte, reduceCtorEq, Nat.reduceAdd, Nat.reduceEqDiff, Nat.reduceLeDiff, Nat.reduceSub, Nat.reduceMul, Nat.reduceLT, Scd, encT, eq_false hc1]; (repeat refine fun (_ : _ ≤ lim) => ?_)
    refine SemF.block rfl ?_
    obtain ⟨s10, h_s10, h⟩ := bs h
    rcases s10 with r11 | v12
    · dsimp only at h
      refine SemF.loop rfl ?_
      refine SemL.weak (sel := []) ⟨by simp only [hgT, ↓w_gt, ↓v_gf, ↓v_gu, ↓reduceIte, reduceCtorEq, Nat.reduceAdd, Nat.reduceEqDiff, Nat.reduceLeDiff, Nat.reduceSub, Nat.reduceMul, Nat.reduceLT, Scd, encT, hwT, selS, erT, eq_false hc1], by decide, by decide, by simp only [hgT, ↓w_gt, ↓v_gf, ↓v_gu, ↓reduceIte, reduceCtorEq, Nat.reduceAdd, Nat.reduceEqDiff, Nat.reduceLeDiff, Nat.reduceSub, Nat.reduceMul, Nat.reduceLT, Scd, encT, hwT, selS, erT, subR, eq_false hc1], by simp only [hgT, ↓w_gt, ↓v_gf, ↓v_gu, ↓reduceIte, reduceCtorEq, Nat.reduceAdd, Nat.reduceEqDiff, Nat.reduceLeDiff, Nat.reduceSub, Nat.reduceMul, Nat.reduceLT, Scd, encT, hwT, selS, erT, scT, Scd, esT, eq_false hc1], by simp only [hgT, ↓w_gt, ↓v_gf, ↓v_gu, ↓reduceIte, reduceCtorEq, Nat.reduceAdd, Nat.reduceEqDiff, Nat.reduceLeDiff, Nat.reduceSub, Nat.reduceMul, Nat.reduceLT, Scd, encT, hwT, selS, erT, scT, Scd, esT, eq_false hc1]⟩ (ih_laws_szTyS_L0 (p0, (IntKind.i64.wrap (p1 - ((p0.length : Nat) : Int))), 0) (.inl r11) h_s10 _ ?_ ?_)
      · intro v hv; cases hv
      · intro r' hr' env st hy
        cases hr'
        simp only [hgT, ↓w_gt, ↓v_gf, ↓v_gu, ↓reduceIte, reduceCtorEq, Nat.reduceAdd, Nat.reduceEqDiff, Nat.reduceLeDiff, Nat.reduceSub, Nat.reduceMul, Nat.reduceLT, Scd, encT]
        obtain rfl := Option.some.inj h
        exact hy
    · dsimp only at h
      refine SemF.loop rfl ?_
      refine SemL.weak (sel := []) ⟨by simp only [hgT, ↓w_gt, ↓v_gf, ↓v_gu, ↓reduceIte, reduceCtorEq, Nat.reduceAdd, Nat.reduceEqDiff, Nat.reduceLeDiff, Nat.reduceSub, Nat.reduceMul, Nat.reduceLT, Scd, encT, hwT, selS, erT, eq_false hc1], by decide, by decide, by simp only [hgT, ↓w_gt, ↓v_gf, ↓v_gu, ↓reduceIte, reduceCtorEq, Nat.reduceAdd, Nat.reduceEqDiff, Nat.reduceLeDiff, Nat.reduceSub, Nat.reduceMul, Nat.reduceLT, Scd, encT, hwT, selS, erT, subR, eq_false hc1], by simp only [hgT, ↓w_gt, ↓v_gf, ↓v_gu, ↓reduceIte, reduceCtorEq, Nat.reduceAdd, Nat.reduceEqDiff, Nat.reduceLeDiff, Nat.reduceSub, Nat.reduceMul, Nat.reduceLT, Scd, encT, hwT, selS, erT, scT, Scd, esT, eq_false hc1], by simp only [hgT, ↓w_gt, ↓v_gf, ↓v_gu, ↓reduceIte, reduceCtorEq, Nat.reduceAdd, Nat.reduceEqDiff, Nat.reduceLeDiff, Nat.reduceSub, Nat.reduceMul, Nat.reduceLT, Scd, encT, hwT, selS, erT, scT, Scd, esT, eq_false hc1]⟩ (ih_laws_szTyS_L0 (p0, (IntKind.i64.wrap (p1 - ((p0.length : Nat) : Int))), 0) (.inr v12) h_s10 _ ?_ ?_)
      rotate_left
      · intro r' hr'; cases hr'
      intro v hv env st sel hw
      cases hv
      simp only [hgT, ↓w_gt, ↓v_gf, ↓v_gu, ↓reduceIte, reduceCtorEq, Nat.reduceAdd, Nat.reduceEqDiff, Nat.reduceLeDiff, Nat.reduceSub, Nat.reduceMul, Nat.reduceLT, Scd, encT]
      first | refine SemF.weak hw ?_ | refine SemL.weak hw ?_
      refine SemF.seq rfl ?_
      refine SemF.reg true rfl ?_
      try simp only [hgT, ↓w_gt, ↓v_gf, ↓v_gu, ↓reduceIte, reduceCtorEq, Nat.reduceAdd, Nat.reduceEqDiff, Nat.reduceLeDiff, Nat.reduceSub, Nat.reduceMul, Nat.reduceLT, Scd, encT, eq_false hc1]; (repeat refine fun (_ : _ ≤ lim) => ?_)
      refine SemF.ret rfl ?_
      try simp only [hgT, ↓w_gt, ↓v_gf, ↓v_gu, ↓reduceIte, reduceCtorEq, Nat.reduceAdd, Nat.reduceEqDiff, Nat.reduceLeDiff, Nat.reduceSub, Nat.reduceMul, Nat.reduceLT, Scd, encT, eq_false hc1]; (repeat refine fun (_ : _ ≤ lim) => ?_)
      obtain rfl := Option.some.inj h
      simp only [hgT, ↓w_gt, ↓v_gf, ↓v_gu, ↓reduceIte, reduceCtorEq, Nat.reduceAdd, Nat.reduceEqDiff, Nat.reduceLeDiff, Nat.reduceSub, Nat.reduceMul, Nat.reduceLT, Scd, encT, RetP_def, eq_false hc1]
theorem laws_szTyS_L0_step (f_laws_szTy : (Ty × Int) → Option Int) (f_laws_szTyS_L0 : ((List Ty) × Int × Int) → Option (Sum Int Int)) (ih_laws_szTy : ∀ (x : (Ty × Int)) (r : Int), f_laws_szTy x = some r → HCp P F.laws_szTy [(Ty.enc x.1), (.int .i64 x.2)] (HV.int .i64 r)) (ih_laws_szTyS_L0 : ∀ (x : ((List Ty) × Int × Int)) (out : (Sum Int Int)), f_laws_szTyS_L0 x = some out → ∀ Q : HExit → Env → St → Prop, (∀ v, out = .inr v → ∀ env st sel, Weak 0 sel [(1, (.int .i64 v))] [] env st → Q (.exit 0) env st) → (∀ r, out = .inl r → ∀ env st, RetP [(4, none)] (HV.int .i64 r) env st → Q .ret env st) → SemL P H.laws_szTyS.ntmps 0 H.laws_szTyS_l6 [(0, (.sl (List.map Ty.enc x.1))), (1, (.int .i64 x.2.1)), (5, (.int .i64 x.2.2))] [] Q) (x : ((List Ty) × Int × Int)) (out : (Sum Int Int)) (h : (if x.2.2 < ((x.1.length : Nat) : Int) then (ix x.1 x.2.2 >>= fun e7 =>
    (f_laws_szTy (e7, x.2.1) >>= fun r8 =>
    (if r8 < 0 then some (.inl (-1)) else
    f_laws_szTyS_L0 (x.1, r8, (IntKind.i64.wrap (x.2.2 + 1)))))) else
    some (.inr x.2.1)) = some out) : ∀ Q : HExit → Env → St → Prop, (∀ v, out = .inr v → ∀ env st sel, Weak 0 sel [(1, (.int .i64 v))] [] env st → Q (.exit 0) env st) → (∀ r, out = .inl r → ∀ env st, RetP [(4, none)] (HV.int .i64 r) env st → Q .ret env st) → SemL P H.laws_szTyS.ntmps 0 H.laws_szTyS_l6 [(0, (.sl (List.map Ty.enc x.1))), (1, (.int .i64 x.2.1)), (5, (.int .i64 x.2.2))] [] Q := by
  obtain ⟨p0, t1_L0, t5_L0⟩ := x
  try dsimp only at h
  intro Q hx hr
  refine SemL.round ?_
  try dsimp only at hx
  refine SemF.seq rfl ?_
  refine SemF.seq rfl ?_
  refine SemF.reg true rfl ?_
  try simp only [hgT, ↓w_gt, ↓v_gf, ↓v_gu, ↓reduceIte, reduceCtorEq, Nat.reduceAdd, Nat.reduceEqDiff, Nat.reduceLeDiff, Nat.reduceSub, Nat.reduceMul, Nat.reduceLT, Scd, encT]; (repeat refine fun (_ : _ ≤ lim) => ?_)
  (repeat refine fun (_ : _ ≤ lim) => ?_)
  by_cases hc6 : t5_L0 < ((p0.length : Nat) : Int)
  · rw [if_pos hc6] at h
    refine SemF.cond rfl ?_
    simp only [hgT, ↓w_gt, ↓v_gf, ↓v_gu, ↓reduceIte, reduceCtorEq, Nat.reduceAdd, Nat.reduceEqDiff, Nat.reduceLeDiff, Nat.reduceSub, Nat.reduceMul, Nat.reduceLT, Scd, encT, eq_true hc6]
    refine SemF.skip rfl ?_
    simp only [hgT, ↓w_gt, ↓v_gf, ↓v_gu, ↓reduceIte, reduceCtorEq, Nat.reduceAdd, Nat.reduceEqDiff, Nat.reduceLeDiff, Nat.reduceSub, Nat.reduceMul, Nat.reduceLT, Scd, encT, eq_true hc6]
    refine SemF.seq rfl ?_
    refine SemF.block rfl ?_
    refine SemF.seq rfl ?_
    refine SemF.reg true rfl ?_
    try simp only [hgT, ↓w_gt, ↓v_gf, ↓v_gu, ↓reduceIte, reduceCtorEq, Nat.reduceAdd, Nat.reduceEqDiff, Nat.reduceLeDiff, Nat.reduceSub, Nat.reduceMul, Nat.reduceLT, Scd, encT, eq_true hc6]; (repeat refine fun (_ : _ ≤ lim) => ?_)
    obtain ⟨e7, h_e7, h⟩ := bs h
    have m_e7 := ixm (f := Ty.enc) (ix_get h_e7)
    try simp only [hgT, ↓w_gt, ↓v_gf, ↓v_gu, ↓reduceIte, reduceCtorEq, Nat.reduceAdd, Nat.reduceEqDiff, Nat.reduceLeDiff, Nat.reduceSub, Nat.reduceMul, Nat.reduceLT, Scd, encT, eq_true hc6, eq_true (ix_nn h_e7), m_e7]; (repeat refine fun (_ : _ ≤ lim) => ?_)
    obtain ⟨r8, h_r8, h⟩ := bs h
    refine HCp.callE (ih_laws_szTy (e7, t1_L0) r8 h_r8) (by simp only [hgT, ↓w_gt, ↓v_gf, ↓v_gu, ↓reduceIte, reduceCtorEq, Nat.reduceAdd, Nat.reduceEqDiff, Nat.reduceLeDiff, Nat.reduceSub, Nat.reduceMul, Nat.reduceLT, Scd, encT, eq_true hc6, eq_true (ix_nn h_e7), m_e7]) (by simp only [scT, Scd, esT, and_self, true_and, and_true]) (by simp only [scT, Scd, esT, and_self, true_and, and_true]) ?_
    try simp only [hgT, ↓w_gt, ↓v_gf, ↓v_gu, ↓reduceIte, reduceCtorEq, Nat.reduceAdd, Nat.reduceEqDiff, Nat.reduceLeDiff, Nat.reduceSub, Nat.reduceMul, Nat.reduceLT, Scd, encT, eq_true hc6, eq_true (ix_nn h_e7), m_e7]; (repeat refine fun (_ : _ ≤ lim) => ?_)
    refine SemF.seq rfl ?_
    refine SemF.reg true rfl ?_
    try simp only [hgT, ↓w_gt, ↓v_gf, ↓v_gu, ↓reduceIte, reduceCtorEq, Nat.reduceAdd, Nat.reduceEqDiff, Nat.reduceLeDiff, Nat.reduceSub, Nat.reduceMul, Nat.reduceLT, Scd, encT, eq_true hc6, eq_true (ix_nn h_e7), m_e7]; (repeat refine fun (_ : _ ≤ lim) => ?_)
    by_cases hc9 : r8 < 0
    · rw [if_pos hc9] at h
      refine SemF.cond rfl ?_
      simp only [hgT, ↓w_gt, ↓v_gf, ↓v_gu, ↓reduceIte, reduceCtorEq, Nat.reduceAdd, Nat.reduceEqDiff, Nat.reduceLeDiff, Nat.reduceSub, Nat.reduceMul, Nat.reduceLT, Scd, encT, eq_true hc6, eq_true (ix_nn h_e7), m_e7, eq_true hc9]
      refine SemF.seq rfl ?_
      refine SemF.reg true rfl ?_
      try simp only [hgT, ↓w_gt, ↓v_gf, ↓v_gu, ↓reduceIte, reduceCtorEq, Nat.reduceAdd, Nat.reduceEqDiff, Nat.reduceLeDiff, Nat.reduceSub, Nat.reduceMul, Nat.reduceLT, Scd, encT, eq_true hc6, eq_true (ix_nn h_e7), m_e7, eq_true hc9]; (repeat refine fun (_ : _ ≤ lim) => ?_)
      refine SemF.ret rfl ?_
      try simp only [hgT, ↓w_gt, ↓v_gf, ↓v_gu, ↓reduceIte, reduceCtorEq, Nat.reduceAdd, Nat.reduceEqDiff, Nat.reduceLeDiff, Nat.reduceSub, Nat.reduceMul, Nat.reduceLT, Scd, encT, eq_true hc6, eq_true (ix_nn h_e7), m_e7, eq_true hc9]; (repeat refine fun (_ : _ ≤ lim) => ?_)
      obtain rfl := Option.some.inj h
      refine hr _ rfl _ _ ?_
      simp only [hgT, ↓w_gt, ↓v_gf, ↓v_gu, ↓reduceIte, reduceCtorEq, Nat.reduceAdd, Nat.reduceEqDiff, Nat.reduceLeDiff, Nat.reduceSub, Nat.reduceMul, Nat.reduceLT, Scd, encT, RetP_def, eq_true hc6, eq_true (ix_nn h_e7), m_e7, eq_true hc9]
    · rw [if_neg hc9] at h
      refine SemF.cond rfl ?_
      simp only [hgT, ↓w_gt, ↓v_gf, ↓v_gu, ↓reduceIte, reduceCtorEq, Nat.reduceAdd, Nat.reduceEqDiff, Nat.reduceLeDiff, Nat.reduceSub, Nat.reduceMul, Nat.reduceLT, Scd, encT, eq_true hc6, eq_true (ix_nn h_e7), m_e7, eq_false hc9]
      refine SemF.skip rfl ?_
      simp only [hgT, ↓w_gt, ↓v_gf, ↓v_gu, ↓reduceIte, reduceCtorEq, Nat.reduceAdd, Nat.reduceEqDiff, Nat.reduceLeDiff, Nat.reduceSub, Nat.reduceMul, Nat.reduceLT, Scd, encT, eq_true hc6, eq_true (ix_nn h_e7), m_e7, eq_false hc9]
      refine SemF.reg true rfl ?_
      try simp only [hgT, ↓w_gt, ↓v_gf, ↓v_gu, ↓reduceIte, reduceCtorEq, Nat.reduceAdd, Nat.reduceEqDiff, Nat.reduceLeDiff, Nat.reduceSub, Nat.reduceMul, Nat.reduceLT, Scd, encT, eq_true hc6, eq_true (ix_nn h_e7), m_e7, eq_false hc9]; (repeat refine fun (_ : _ ≤ lim) => ?_)
      refine SemL.weak (sel := []) ⟨by simp only [hgT, ↓w_gt, ↓v_gf, ↓v_gu, ↓reduceIte, reduceCtorEq, Nat.reduceAdd, Nat.reduceEqDiff, Nat.reduceLeDiff, Nat.reduceSub, Nat.reduceMul, Nat.reduceLT, Scd, encT, hwT, selS, erT, eq_true hc6, eq_true (ix_nn h_e7), m_e7, eq_false hc9], by decide, by decide, by simp only [hgT, ↓w_gt, ↓v_gf, ↓v_gu, ↓reduceIte, reduceCtorEq, Nat.reduceAdd, Nat.reduceEqDiff, Nat.reduceLeDiff, Nat.reduceSub, Nat.reduceMul, Nat.reduceLT, Scd, encT, hwT, selS, erT, subR, eq_true hc6, eq_true (ix_nn h_e7), m_e7, eq_false hc9], by simp only [hgT, ↓w_gt, ↓v_gf, ↓v_gu, ↓reduceIte, reduceCtorEq, Nat.reduceAdd, Nat.reduceEqDiff, Nat.reduceLeDiff, Nat.reduceSub, Nat.reduceMul, Nat.reduceLT, Scd, encT, hwT, selS, erT, scT, Scd, esT, eq_true hc6, eq_true (ix_nn h_e7), m_e7, eq_false hc9], by simp only [hgT, ↓w_gt, ↓v_gf, ↓v_gu, ↓reduceIte, reduceCtorEq, Nat.reduceAdd, Nat.reduceEqDiff, Nat.reduceLeDiff, Nat.reduceSub, Nat.reduceMul, Nat.reduceLT, Scd, encT, hwT, selS, erT, scT, Scd, esT, eq_true hc6, eq_true (ix_nn h_e7), m_e7, eq_false hc9]⟩ (ih_laws_szTyS_L0 (p0, r8, (IntKind.i64.wrap (t5_L0 + 1))) out h Q hx hr)
  · rw [if_neg hc6] at h
    refine SemF.cond rfl ?_
    simp only [hgT, ↓w_gt, ↓v_gf, ↓v_gu, ↓reduceIte, reduceCtorEq, Nat.reduceAdd, Nat.reduceEqDiff, Nat.reduceLeDiff, Nat.reduceSub, Nat.reduceMul, Nat.reduceLT, Scd, encT, eq_false hc6]
    refine SemF.exit rfl ?_
    simp only [hgT, ↓w_gt, ↓v_gf, ↓v_gu, ↓reduceIte, reduceCtorEq, Nat.reduceAdd, Nat.reduceEqDiff, Nat.reduceLeDiff, Nat.reduceSub, Nat.reduceMul, Nat.reduceLT, Scd, encT, eq_false hc6]
    obtain rfl := Option.some.inj h
    refine hx _ rfl _ _ [] ⟨by simp only [hgT, ↓w_gt, ↓v_gf, ↓v_gu, ↓reduceIte, reduceCtorEq, Nat.reduceAdd, Nat.reduceEqDiff, Nat.reduceLeDiff, Nat.reduceSub, Nat.reduceMul, Nat.reduceLT, Scd, encT, hwT, selS, erT, eq_false hc6], by decide, by decide, by simp only [hgT, ↓w_gt, ↓v_gf, ↓v_gu, ↓reduceIte, reduceCtorEq, Nat.reduceAdd, Nat.reduceEqDiff, Nat.reduceLeDiff, Nat.reduceSub, Nat.reduceMul, Nat.reduceLT, Scd, encT, hwT, selS, erT, subR, eq_false hc6], by simp only [hgT, ↓w_gt, ↓v_gf, ↓v_gu, ↓reduceIte, reduceCtorEq, Nat.reduceAdd, Nat.reduceEqDiff, Nat.reduceLeDiff, Nat.reduceSub, Nat.reduceMul, Nat.reduceLT, Scd, encT, hwT, selS, erT, scT, Scd, esT, eq_false hc6], by simp only [hgT, ↓w_gt, ↓v_gf, ↓v_gu, ↓reduceIte, reduceCtorEq, Nat.reduceAdd, Nat.reduceEqDiff, Nat.reduceLeDiff, Nat.reduceSub, Nat.reduceMul, Nat.reduceLT, Scd, encT, hwT, selS, erT, scT, Scd, esT, eq_false hc6]⟩
theorem laws_szTy_all : (∀ (x : (Ty × Int)) (r : Int), M.laws_szTy x = some r → HCp P F.laws_szTy [(Ty.enc x.1), (.int .i64 x.2)] (HV.int .i64 r)) ∧
  (∀ (x : ((List Ty) × Int)) (r : Int), M.laws_szTyS x = some r → HCp P F.laws_szTyS [(.sl (List.map Ty.enc x.1)), (.int .i64 x.2)] (HV.int .i64 r)) ∧
  (∀ (x : ((List Ty) × Int × Int)) (out : (Sum Int Int)), M.laws_szTyS_L0 x = some out → ∀ Q : HExit → Env → St → Prop, (∀ v, out = .inr v → ∀ env st sel, Weak 0 sel [(1, (.int .i64 v))] [] env st → Q (.exit 0) env st) → (∀ r, out = .inl r → ∀ env st, RetP [(4, none)] (HV.int .i64 r) env st → Q .ret env st) → SemL P H.laws_szTyS.ntmps 0 H.laws_szTyS_l6 [(0, (.sl (List.map Ty.enc x.1))), (1, (.int .i64 x.2.1)), (5, (.int .i64 x.2.2))] [] Q) := by
  refine M.laws_szTy.mutual_partial_correctness (motive_1 := fun x r => HCp P F.laws_szTy [(Ty.enc x.1), (.int .i64 x.2)] (HV.int .i64 r)) (motive_2 := fun x r => HCp P F.laws_szTyS [(.sl (List.map Ty.enc x.1)), (.int .i64 x.2)] (HV.int .i64 r)) (motive_3 := fun x out => ∀ Q : HExit → Env → St → Prop, (∀ v, out = .inr v → ∀ env st sel, Weak 0 sel [(1, (.int .i64 v))] [] env st → Q (.exit 0) env st) → (∀ r, out = .inl r → ∀ env st, RetP [(4, none)] (HV.int .i64 r) env st → Q .ret env st) → SemL P H.laws_szTyS.ntmps 0 H.laws_szTyS_l6 [(0, (.sl (List.map Ty.enc x.1))), (1, (.int .i64 x.2.1)), (5, (.int .i64 x.2.2))] [] Q) ?_ ?_ ?_
  · exact fun f_laws_szTyS ih_laws_szTyS x r h => K.laws_szTy_step f_laws_szTyS ih_laws_szTyS x r h
  · exact fun f_laws_szTyS_L0 ih_laws_szTyS_L0 x r h => K.laws_szTyS_step f_laws_szTyS_L0 ih_laws_szTyS_L0 x r h
  · exact fun f_laws_szTy f_laws_szTyS_L0 ih_laws_szTy ih_laws_szTyS_L0 x out h => K.laws_szTyS_L0_step f_laws_szTy f_laws_szTyS_L0 ih_laws_szTy ih_laws_szTyS_L0 x out h
theorem laws_szTy : (∀ (x : (Ty × Int)) (r : Int), M.laws_szTy x = some r → HCp P F.laws_szTy [(Ty.enc x.1), (.int .i64 x.2)] (HV.int .i64 r)) := K.laws_szTy_all.1
theorem laws_szTyS : (∀ (x : ((List Ty) × Int)) (r : Int), M.laws_szTyS x = some r → HCp P F.laws_szTyS [(.sl (List.map Ty.enc x.1)), (.int .i64 x.2)] (HV.int .i64 r)) := K.laws_szTy_all.2.1
theorem laws_szTyS_L0 : (∀ (x : ((List Ty) × Int × Int)) (out : (Sum Int Int)), M.laws_szTyS_L0 x = some out → ∀ Q : HExit → Env → St → Prop, (∀ v, out = .inr v → ∀ env st sel, Weak 0 sel [(1, (.int .i64 v))] [] env st → Q (.exit 0) env st) → (∀ r, out = .inl r → ∀ env st, RetP [(4, none)] (HV.int .i64 r) env st → Q .ret env st) → SemL P H.laws_szTyS.ntmps 0 H.laws_szTyS_l6 [(0, (.sl (List.map Ty.enc x.1))), (1, (.int .i64 x.2.1)), (5, (.int .i64 x.2.2))] [] Q) := K.laws_szTy_all.2.2
end K
end W
