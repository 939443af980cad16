import Derived.Test.YtnhdobhfebiggaaCPrf3
namespace W
set_option linter.unusedSimpArgs false
open Go HL S
set_option linter.unusedVariables false
set_option maxRecDepth 100000
set_option maxHeartbeats 4000000
namespace K
theorem spec_l3SameDecs_step (f_spec_l3SameDecs_L0 : ((List Dec) × (List Dec) × Int) → Option (Sum Bool Unit)) (ih_spec_l3SameDecs_L0 : ∀ (x : ((List Dec) × (List Dec) × Int)) (out : (Sum Bool Unit)), f_spec_l3SameDecs_L0 x = some out → ∀ Q : HExit → Env → St → Prop, (∀ v, out = .inr v → ∀ env st sel, Weak 0 sel [] [] env st → Q (.exit 0) env st) → (∀ r, out = .inl r → ∀ env st, RetP [(4, none)] (HV.bool r) env st → Q .ret env st) → SemL P H.spec_l3SameDecs.ntmps 0 H.spec_l3SameDecs_l5 [(0, (.sl (List.map Dec.enc x.1))), (1, (.sl (List.map Dec.enc x.2.1))), (5, (.int .i64 x.2.2))] [] Q) (x : ((List Dec) × (List Dec))) (r : Bool) (h : (if ((x.1.length : Nat) : Int) = ((x.2.length : Nat) : Int) then (f_spec_l3SameDecs_L0 (x.1, x.2, 0) >>= fun s22 =>
    (match s22 with
    | .inl r23 => some r23
    | .inr v24 => some true)) else
    some false) = some r) : HCp P F.spec_l3SameDecs [(.sl (List.map Dec.enc x.1)), (.sl (List.map Dec.enc x.2))] (HV.bool r) := by
  obtain ⟨p0, p1⟩ := x
  try dsimp only at h
  refine HCp.mkF S.spec_l3SameDecs (by simp [H.spec_l3SameDecs]) (by simp only [scT, Scd, esT, and_self, true_and, and_true]) ?_
  simp only [hgT, ↓w_gt, ↓v_gf, ↓v_gu, ↓reduceIte, reduceCtorEq, Nat.reduceAdd, Nat.reduceEqDiff, Nat.reduceLeDiff, Nat.reduceSub, Nat.reduceMul, Nat.reduceLT, Scd, encT, H.spec_l3SameDecs]
  refine SemF.seq rfl ?_
  refine SemF.reg true rfl ?_
  try simp only [hgT, ↓w_gt, ↓v_gf, ↓v_gu, ↓reduceIte, reduceCtorEq, Nat.reduceAdd, Nat.reduceEqDiff, Nat.reduceLeDiff, Nat.reduceSub, Nat.reduceMul, Nat.reduceLT, Scd, encT]; (repeat refine fun (_ : _ ≤ lim) => ?_)
  refine SemF.seq rfl ?_
  refine SemF.seq rfl ?_
  refine SemF.reg true rfl ?_
  try simp only [hgT, ↓w_gt, ↓v_gf, ↓v_gu, ↓reduceIte, reduceCtorEq, Nat.reduceAdd, Nat.reduceEqDiff, Nat.reduceLeDiff, Nat.reduceSub, Nat.reduceMul, Nat.reduceLT, Scd, encT]; (repeat refine fun (_ : _ ≤ lim) => ?_)
  (repeat refine fun (_ : _ ≤ lim) => ?_)
  (repeat refine fun (_ : _ ≤ lim) => ?_)
  by_cases hc1 : ((p0.length : Nat) : Int) = ((p1.length : Nat) : Int)
  · rw [if_pos hc1] at h
    refine SemF.cond rfl ?_
    simp only [hgT, ↓w_gt, ↓v_gf, ↓v_gu, ↓reduceIte, reduceCtorEq, Nat.reduceAdd, Nat.reduceEqDiff, Nat.reduceLeDiff, Nat.reduceSub, Nat.reduceMul, Nat.reduceLT, Scd, encT, eq_true hc1]
    refine SemF.skip rfl ?_
    simp only [hgT, ↓w_gt, ↓v_gf, ↓v_gu, ↓reduceIte, reduceCtorEq, Nat.reduceAdd, Nat.reduceEqDiff, Nat.reduceLeDiff, Nat.reduceSub, Nat.reduceMul, Nat.reduceLT, Scd, encT, eq_true hc1]
    refine SemF.seq rfl ?_
    refine SemF.seq rfl ?_
    refine SemF.reg true rfl ?_
    try simp only [hgT, ↓w_gt, ↓v_gf, ↓v_gu, ↓reduceIte, reduceCtorEq, Nat.reduceAdd, Nat.reduceEqDiff, Nat.reduceLeDiff, Nat.reduceSub, Nat.reduceMul, Nat.reduceLT, Scd, encT, eq_true hc1]; (repeat refine fun (_ : _ ≤ lim) => ?_)
    refine SemF.block rfl ?_
    obtain ⟨s22, h_s22, h⟩ := bs h
    rcases s22 with r23 | v24
    · dsimp only at h
      refine SemF.loop rfl ?_
      refine SemL.weak (sel := []) ⟨by simp only [hgT, ↓w_gt, ↓v_gf, ↓v_gu, ↓reduceIte, reduceCtorEq, Nat.reduceAdd, Nat.reduceEqDiff, Nat.reduceLeDiff, Nat.reduceSub, Nat.reduceMul, Nat.reduceLT, Scd, encT, hwT, selS, erT, eq_true hc1], by decide, by decide, by simp only [hgT, ↓w_gt, ↓v_gf, ↓v_gu, ↓reduceIte, reduceCtorEq, Nat.reduceAdd, Nat.reduceEqDiff, Nat.reduceLeDiff, Nat.reduceSub, Nat.reduceMul, Nat.reduceLT, Scd, encT, hwT, selS, erT, subR, eq_true hc1], by simp only [hgT, ↓w_gt, ↓v_gf, ↓v_gu, ↓reduceIte, reduceCtorEq, Nat.reduceAdd, Nat.reduceEqDiff, Nat.reduceLeDiff, Nat.reduceSub, Nat.reduceMul, Nat.reduceLT, Scd, encT, hwT, selS, erT, scT, Scd, esT, eq_true hc1], by simp only [hgT, ↓w_gt, ↓v_gf, ↓v_gu, ↓reduceIte, reduceCtorEq, Nat.reduceAdd, Nat.reduceEqDiff, Nat.reduceLeDiff, Nat.reduceSub, Nat.reduceMul, Nat.reduceLT, Scd, encT, hwT, selS, erT, scT, Scd, esT, eq_true hc1]⟩ (ih_spec_l3SameDecs_L0 (p0, p1, 0) (.inl r23) h_s22 _ ?_ ?_)
      · intro v hv; cases hv
      · intro r' hr' env st hy
        cases hr'
        simp only [hgT, ↓w_gt, ↓v_gf, ↓v_gu, ↓reduceIte, reduceCtorEq, Nat.reduceAdd, Nat.reduceEqDiff, Nat.reduceLeDiff, Nat.reduceSub, Nat.reduceMul, Nat.reduceLT, Scd, encT]
        obtain rfl := Option.some.inj h
        exact hy
    · dsimp only at h
      refine SemF.loop rfl ?_
      refine SemL.weak (sel := []) ⟨by simp only [hgT, ↓w_gt, ↓v_gf, ↓v_gu, ↓reduceIte, reduceCtorEq, Nat.reduceAdd, Nat.reduceEqDiff, Nat.reduceLeDiff, Nat.reduceSub, Nat.reduceMul, Nat.reduceLT, Scd, encT, hwT, selS, erT, eq_true hc1], by decide, by decide, by simp only [hgT, ↓w_gt, ↓v_gf, ↓v_gu, ↓reduceIte, reduceCtorEq, Nat.reduceAdd, Nat.reduceEqDiff, Nat.reduceLeDiff, Nat.reduceSub, Nat.reduceMul, Nat.reduceLT, Scd, encT, hwT, selS, erT, subR, eq_true hc1], by simp only [hgT, ↓w_gt, ↓v_gf, ↓v_gu, ↓reduceIte, reduceCtorEq, Nat.reduceAdd, Nat.reduceEqDiff, Nat.reduceLeDiff, Nat.reduceSub, Nat.reduceMul, Nat.reduceLT, Scd, encT, hwT, selS, erT, scT, Scd, esT, eq_true hc1], by simp only [hgT, ↓w_gt, ↓v_gf, ↓v_gu, ↓reduceIte, reduceCtorEq, Nat.reduceAdd, Nat.reduceEqDiff, Nat.reduceLeDiff, Nat.reduceSub, Nat.reduceMul, Nat.reduceLT, Scd, encT, hwT, selS, erT, scT, Scd, esT, eq_true hc1]⟩ (ih_spec_l3SameDecs_L0 (p0, p1, 0) (.inr v24) h_s22 _ ?_ ?_)
      rotate_left
      · intro r' hr'; cases hr'
      intro v hv env st sel hw
      cases hv
      simp only [hgT, ↓w_gt, ↓v_gf, ↓v_gu, ↓reduceIte, reduceCtorEq, Nat.reduceAdd, Nat.reduceEqDiff, Nat.reduceLeDiff, Nat.reduceSub, Nat.reduceMul, Nat.reduceLT, Scd, encT]
      first | refine SemF.weak hw ?_ | refine SemL.weak hw ?_
      refine SemF.seq rfl ?_
      refine SemF.reg true rfl ?_
      try simp only [hgT, ↓w_gt, ↓v_gf, ↓v_gu, ↓reduceIte, reduceCtorEq, Nat.reduceAdd, Nat.reduceEqDiff, Nat.reduceLeDiff, Nat.reduceSub, Nat.reduceMul, Nat.reduceLT, Scd, encT, eq_true hc1]; (repeat refine fun (_ : _ ≤ lim) => ?_)
      refine SemF.ret rfl ?_
      try simp only [hgT, ↓w_gt, ↓v_gf, ↓v_gu, ↓reduceIte, reduceCtorEq, Nat.reduceAdd, Nat.reduceEqDiff, Nat.reduceLeDiff, Nat.reduceSub, Nat.reduceMul, Nat.reduceLT, Scd, encT, eq_true hc1]; (repeat refine fun (_ : _ ≤ lim) => ?_)
      obtain rfl := Option.some.inj h
      simp only [hgT, ↓w_gt, ↓v_gf, ↓v_gu, ↓reduceIte, reduceCtorEq, Nat.reduceAdd, Nat.reduceEqDiff, Nat.reduceLeDiff, Nat.reduceSub, Nat.reduceMul, Nat.reduceLT, Scd, encT, RetP_def, eq_true hc1]
  · rw [if_neg hc1] at h
    refine SemF.cond rfl ?_
    simp only [hgT, ↓w_gt, ↓v_gf, ↓v_gu, ↓reduceIte, reduceCtorEq, Nat.reduceAdd, Nat.reduceEqDiff, Nat.reduceLeDiff, Nat.reduceSub, Nat.reduceMul, Nat.reduceLT, Scd, encT, eq_false hc1]
    refine SemF.seq rfl ?_
    refine SemF.reg true rfl ?_
    try simp only [hgT, ↓w_gt, ↓v_gf, ↓v_gu, ↓reduceIte, reduceCtorEq, Nat.reduceAdd, Nat.reduceEqDiff, Nat.reduceLeDiff, Nat.reduceSub, Nat.reduceMul, Nat.reduceLT, Scd, encT, eq_false hc1]; (repeat refine fun (_ : _ ≤ lim) => ?_)
    refine SemF.ret rfl ?_
    try simp only [hgT, ↓w_gt, ↓v_gf, ↓v_gu, ↓reduceIte, reduceCtorEq, Nat.reduceAdd, Nat.reduceEqDiff, Nat.reduceLeDiff, Nat.reduceSub, Nat.reduceMul, Nat.reduceLT, Scd, encT, eq_false hc1]; (repeat refine fun (_ : _ ≤ lim) => ?_)
    obtain rfl := Option.some.inj h
    simp only [hgT, ↓w_gt, ↓v_gf, ↓v_gu, ↓reduceIte, reduceCtorEq, Nat.reduceAdd, Nat.reduceEqDiff, Nat.reduceLeDiff, Nat.reduceSub, Nat.reduceMul, Nat.reduceLT, Scd, encT, RetP_def, eq_false hc1]
theorem spec_l3SameDecs_L0_step (f_spec_SameExp : (Exp × Exp) → Option Bool) (f_spec_l3SameDecs : ((List Dec) × (List Dec)) → Option Bool) (f_spec_l3SameDecs_L0 : ((List Dec) × (List Dec) × Int) → Option (Sum Bool Unit)) (ih_spec_SameExp : ∀ (x : (Exp × Exp)) (r : Bool), f_spec_SameExp x = some r → HCp P F.spec_SameExp [(Exp.enc x.1), (Exp.enc x.2)] (HV.bool r)) (ih_spec_l3SameDecs : ∀ (x : ((List Dec) × (List Dec))) (r : Bool), f_spec_l3SameDecs x = some r → HCp P F.spec_l3SameDecs [(.sl (List.map Dec.enc x.1)), (.sl (List.map Dec.enc x.2))] (HV.bool r)) (ih_spec_l3SameDecs_L0 : ∀ (x : ((List Dec) × (List Dec) × Int)) (out : (Sum Bool Unit)), f_spec_l3SameDecs_L0 x = some out → ∀ Q : HExit → Env → St → Prop, (∀ v, out = .inr v → ∀ env st sel, Weak 0 sel [] [] env st → Q (.exit 0) env st) → (∀ r, out = .inl r → ∀ env st, RetP [(4, none)] (HV.bool r) env st → Q .ret env st) → SemL P H.spec_l3SameDecs.ntmps 0 H.spec_l3SameDecs_l5 [(0, (.sl (List.map Dec.enc x.1))), (1, (.sl (List.map Dec.enc x.2.1))), (5, (.int .i64 x.2.2))] [] Q) (x : ((List Dec) × (List Dec) × Int)) (out : (Sum Bool Unit)) (h : (if x.2.2 < ((x.1.length : Nat) : Int) then (ix x.1 x.2.2 >>= fun e13 =>
    (ix x.2.1 x.2.2 >>= fun e14 =>
    (if e13.Name = e14.Name then (M.spec_l3SameTexts (e13.Pars, e14.Pars) >>= fun r16 =>
    (if r16 = true then (f_spec_SameExp (e13.E, e14.E) >>= fun r18 =>
    (if r18 = true then (f_spec_l3SameDecs (e13.Where, e14.Where) >>= fun r20 =>
    (if r20 = true then f_spec_l3SameDecs_L0 (x.1, x.2.1, (IntKind.i64.wrap (x.2.2 + 1))) else
    some (.inl false))) else
    some (.inl false))) else
    some (.inl false))) else
    some (.inl false)))) else
    some (.inr ())) = some out) : ∀ Q : HExit → Env → St → Prop, (∀ v, out = .inr v → ∀ env st sel, Weak 0 sel [] [] env st → Q (.exit 0) env st) → (∀ r, out = .inl r → ∀ env st, RetP [(4, none)] (HV.bool r) env st → Q .ret env st) → SemL P H.spec_l3SameDecs.ntmps 0 H.spec_l3SameDecs_l5 [(0, (.sl (List.map Dec.enc x.1))), (1, (.sl (List.map Dec.enc x.2.1))), (5, (.int .i64 x.2.2))] [] Q := by
  obtain ⟨p0, p1, t5_L0⟩ := x
  try dsimp only at h
  intro Q hx hr
  refine SemL.round ?_
  try dsimp only at hx
  refine SemF.seq rfl ?_
  refine SemF.seq rfl ?_
  refine SemF.reg true rfl ?_
  try simp only [hgT, ↓w_gt, ↓v_gf, ↓v_gu, ↓reduceIte, reduceCtorEq, Nat.reduceAdd, Nat.reduceEqDiff, Nat.reduceLeDiff, Nat.reduceSub, Nat.reduceMul, Nat.reduceLT, Scd, encT]; (repeat refine fun (_ : _ ≤ lim) => ?_)
  (repeat refine fun (_ : _ ≤ lim) => ?_)
  by_cases hc12 : t5_L0 < ((p0.length : Nat) : Int)
  · rw [if_pos hc12] at h
    refine SemF.cond rfl ?_
    simp only [hgT, ↓w_gt, ↓v_gf, ↓v_gu, ↓reduceIte, reduceCtorEq, Nat.reduceAdd, Nat.reduceEqDiff, Nat.reduceLeDiff, Nat.reduceSub, Nat.reduceMul, Nat.reduceLT, Scd, encT, eq_true hc12]
    refine SemF.skip rfl ?_
    simp only [hgT, ↓w_gt, ↓v_gf, ↓v_gu, ↓reduceIte, reduceCtorEq, Nat.reduceAdd, Nat.reduceEqDiff, Nat.reduceLeDiff, Nat.reduceSub, Nat.reduceMul, Nat.reduceLT, Scd, encT, eq_true hc12]
    refine SemF.seq rfl ?_
    refine SemF.block rfl ?_
    refine SemF.seq rfl ?_
    refine SemF.dreg true rfl ?_
    try simp only [hgT, ↓w_gt, ↓v_gf, ↓v_gu, ↓reduceIte, reduceCtorEq, Nat.reduceAdd, Nat.reduceEqDiff, Nat.reduceLeDiff, Nat.reduceSub, Nat.reduceMul, Nat.reduceLT, Scd, encT, eq_true hc12]; (repeat refine fun (_ : _ ≤ lim) => ?_)
    obtain ⟨e13, h_e13, h⟩ := bs h
    have m_e13 := ixm (f := Dec.enc) (ix_get h_e13)
    try simp only [hgT, ↓w_gt, ↓v_gf, ↓v_gu, ↓reduceIte, reduceCtorEq, Nat.reduceAdd, Nat.reduceEqDiff, Nat.reduceLeDiff, Nat.reduceSub, Nat.reduceMul, Nat.reduceLT, Scd, encT, eq_true hc12, eq_true (ix_nn h_e13), m_e13]; (repeat refine fun (_ : _ ≤ lim) => ?_)
    obtain ⟨e14, h_e14, h⟩ := bs h
    have m_e14 := ixm (f := Dec.enc) (ix_get h_e14)
    try simp only [hgT, ↓w_gt, ↓v_gf, ↓v_gu, ↓reduceIte, reduceCtorEq, Nat.reduceAdd, Nat.reduceEqDiff, Nat.reduceLeDiff, Nat.reduceSub, Nat.reduceMul, Nat.reduceLT, Scd, encT, eq_true hc12, eq_true (ix_nn h_e13), m_e13, eq_true (ix_nn h_e14), m_e14]; (repeat refine fun (_ : _ ≤ lim) => ?_)
    by_cases hc15 : e13.Name = e14.Name
    · rw [if_pos hc15] at h
      try simp only [hgT, ↓w_gt, ↓v_gf, ↓v_gu, ↓reduceIte, reduceCtorEq, Nat.reduceAdd, Nat.reduceEqDiff, Nat.reduceLeDiff, Nat.reduceSub, Nat.reduceMul, Nat.reduceLT, Scd, encT, eq_true hc12, eq_true (ix_nn h_e13), m_e13, eq_true (ix_nn h_e14), m_e14, eq_true hc15]; (repeat refine fun (_ : _ ≤ lim) => ?_)
      obtain ⟨r16, h_r16, h⟩ := bs h
      refine HCp.callE (K.spec_l3SameTexts (e13.Pars, e14.Pars) r16 h_r16) (by simp only [hgT, ↓w_gt, ↓v_gf, ↓v_gu, ↓reduceIte, reduceCtorEq, Nat.reduceAdd, Nat.reduceEqDiff, Nat.reduceLeDiff, Nat.reduceSub, Nat.reduceMul, Nat.reduceLT, Scd, encT, eq_true hc12, eq_true (ix_nn h_e13), m_e13, eq_true (ix_nn h_e14), m_e14, eq_true hc15]) (by simp only [scT, Scd, esT, and_self, true_and, and_true]) (by simp only [scT, Scd, esT, and_self, true_and, and_true]) ?_
      try simp only [hgT, ↓w_gt, ↓v_gf, ↓v_gu, ↓reduceIte, reduceCtorEq, Nat.reduceAdd, Nat.reduceEqDiff, Nat.reduceLeDiff, Nat.reduceSub, Nat.reduceMul, Nat.reduceLT, Scd, encT, eq_true hc12, eq_true (ix_nn h_e13), m_e13, eq_true (ix_nn h_e14), m_e14, eq_true hc15]; (repeat refine fun (_ : _ ≤ lim) => ?_)
      by_cases hc17 : r16 = true
      · rw [if_pos hc17] at h
        try simp only [hgT, ↓w_gt, ↓v_gf, ↓v_gu, ↓reduceIte, reduceCtorEq, Nat.reduceAdd, Nat.reduceEqDiff, Nat.reduceLeDiff, Nat.reduceSub, Nat.reduceMul, Nat.reduceLT, Scd, encT, eq_true hc12, eq_true (ix_nn h_e13), m_e13, eq_true (ix_nn h_e14), m_e14, eq_true hc15, hc17]; (repeat refine fun (_ : _ ≤ lim) => ?_)
        obtain ⟨r18, h_r18, h⟩ := bs h
        refine HCp.callE (ih_spec_SameExp (e13.E, e14.E) r18 h_r18) (by simp only [hgT, ↓w_gt, ↓v_gf, ↓v_gu, ↓reduceIte, reduceCtorEq, Nat.reduceAdd, Nat.reduceEqDiff, Nat.reduceLeDiff, Nat.reduceSub, Nat.reduceMul, Nat.reduceLT, Scd, encT, eq_true hc12, eq_true (ix_nn h_e13), m_e13, eq_true (ix_nn h_e14), m_e14, eq_true hc15, hc17]) (by simp only [scT, Scd, esT, and_self, true_and, and_true]) (by simp only [scT, Scd, esT, and_self, true_and, and_true]) ?_
        try simp only [hgT, ↓w_gt, ↓v_gf, ↓v_gu, ↓reduceIte, reduceCtorEq, Nat.reduceAdd, Nat.reduceEqDiff, Nat.reduceLeDiff, Nat.reduceSub, Nat.reduceMul, Nat.reduceLT, Scd, encT, eq_true hc12, eq_true (ix_nn h_e13), m_e13, eq_true (ix_nn h_e14), m_e14, eq_true hc15, hc17]; (repeat refine fun (_ : _ ≤ lim) => ?_)
        by_cases hc19 : r18 = true
        · rw [if_pos hc19] at h
          try simp only [hgT, ↓w_gt, ↓v_gf, ↓v_gu, ↓reduceIte, reduceCtorEq, Nat.reduceAdd, Nat.reduceEqDiff, Nat.reduceLeDiff, Nat.reduceSub, Nat.reduceMul, Nat.reduceLT, Scd, encT, eq_true hc12, eq_true (ix_nn h_e13), m_e13, eq_true (ix_nn h_e14), m_e14, eq_true hc15, hc17, hc19]; (repeat refine fun (_ : _ ≤ lim) => ?_)
          obtain ⟨r20, h_r20, h⟩ := bs h
          refine HCp.callE (ih_spec_l3SameDecs (e13.Where, e14.Where) r20 h_r20) (by simp only [hgT, ↓w_gt, ↓v_gf, ↓v_gu, ↓reduceIte, reduceCtorEq, Nat.reduceAdd, Nat.reduceEqDiff, Nat.reduceLeDiff, Nat.reduceSub, Nat.reduceMul, Nat.reduceLT, Scd, encT, eq_true hc12, eq_true (ix_nn h_e13), m_e13, eq_true (ix_nn h_e14), m_e14, eq_true hc15, hc17, hc19]) (by simp only [scT, Scd, esT, and_self, true_and, and_true]) (by simp only [scT, Scd, esT, and_self, true_and, and_true]) ?_
          try simp only [hgT, ↓w_gt, ↓v_gf, ↓v_gu, ↓reduceIte, reduceCtorEq, Nat.reduceAdd, Nat.reduceEqDiff, Nat.reduceLeDiff, Nat.reduceSub, Nat.reduceMul, Nat.reduceLT, Scd, encT, eq_true hc12, eq_true (ix_nn h_e13), m_e13, eq_true (ix_nn h_e14), m_e14, eq_true hc15, hc17, hc19]; (repeat refine fun (_ : _ ≤ lim) => ?_)
          by_cases hc21 : r20 = true
          · rw [if_pos hc21] at h
            refine SemF.cond rfl ?_
            simp only [hgT, ↓w_gt, ↓v_gf, ↓v_gu, ↓reduceIte, reduceCtorEq, Nat.reduceAdd, Nat.reduceEqDiff, Nat.reduceLeDiff, Nat.reduceSub, Nat.reduceMul, Nat.reduceLT, Scd, encT, eq_true hc12, eq_true (ix_nn h_e13), m_e13, eq_true (ix_nn h_e14), m_e14, eq_true hc15, hc17, hc19, hc21]
            refine SemF.skip rfl ?_
            simp only [hgT, ↓w_gt, ↓v_gf, ↓v_gu, ↓reduceIte, reduceCtorEq, Nat.reduceAdd, Nat.reduceEqDiff, Nat.reduceLeDiff, Nat.reduceSub, Nat.reduceMul, Nat.reduceLT, Scd, encT, eq_true hc12, eq_true (ix_nn h_e13), m_e13, eq_true (ix_nn h_e14), m_e14, eq_true hc15, hc17, hc19, hc21]
            refine SemF.reg true rfl ?_
            try simp only [hgT, ↓w_gt, ↓v_gf, ↓v_gu, ↓reduceIte, reduceCtorEq, Nat.reduceAdd, Nat.reduceEqDiff, Nat.reduceLeDiff, Nat.reduceSub, Nat.reduceMul, Nat.reduceLT, Scd, encT, eq_true hc12, eq_true (ix_nn h_e13), m_e13, eq_true (ix_nn h_e14), m_e14, eq_true hc15, hc17, hc19, hc21]; (repeat refine fun (_ : _ ≤ lim) => ?_)
            refine SemL.weak (sel := []) ⟨by simp only [hgT, ↓w_gt, ↓v_gf, ↓v_gu, ↓reduceIte, reduceCtorEq, Nat.reduceAdd, Nat.reduceEqDiff, Nat.reduceLeDiff, Nat.reduceSub, Nat.reduceMul, Nat.reduceLT, Scd, encT, hwT, selS, erT, eq_true hc12, eq_true (ix_nn h_e13), m_e13, eq_true (ix_nn h_e14), m_e14, eq_true hc15, hc17, hc19, hc21], by decide, by decide, by simp only [hgT, ↓w_gt, ↓v_gf, ↓v_gu, ↓reduceIte, reduceCtorEq, Nat.reduceAdd, Nat.reduceEqDiff, Nat.reduceLeDiff, Nat.reduceSub, Nat.reduceMul, Nat.reduceLT, Scd, encT, hwT, selS, erT, subR, eq_true hc12, eq_true (ix_nn h_e13), m_e13, eq_true (ix_nn h_e14), m_e14, eq_true hc15, hc17, hc19, hc21], by simp only [hgT, ↓w_gt, ↓v_gf, ↓v_gu, ↓reduceIte, reduceCtorEq, Nat.reduceAdd, Nat.reduceEqDiff, Nat.reduceLeDiff, Nat.reduceSub, Nat.reduceMul, Nat.reduceLT, Scd, encT, hwT, selS, erT, scT, Scd, esT, eq_true hc12, eq_true (ix_nn h_e13), m_e13, eq_true (ix_nn h_e14), m_e14, eq_true hc15, hc17, hc19, hc21], by simp only [hgT, ↓w_gt, ↓v_gf, ↓v_gu, ↓reduceIte, reduceCtorEq, Nat.reduceAdd, Nat.reduceEqDiff, Nat.reduceLeDiff, Nat.reduceSub, Nat.reduceMul, Nat.reduceLT, Scd, encT, hwT, selS, erT, scT, Scd, esT, eq_true hc12, eq_true (ix_nn h_e13), m_e13, eq_true (ix_nn h_e14), m_e14, eq_true hc15, hc17, hc19, hc21]⟩ (ih_spec_l3SameDecs_L0 (p0, p1, (IntKind.i64.wrap (t5_L0 + 1))) out h Q hx hr)
          · rw [if_neg hc21] at h
            replace hc21 := eq_false_of_ne_true hc21
            refine SemF.cond rfl ?_
            simp only [hgT, ↓w_gt, ↓v_gf, ↓v_gu, ↓reduceIte, reduceCtorEq, Nat.reduceAdd, Nat.reduceEqDiff, Nat.reduceLeDiff, Nat.reduceSub, Nat.reduceMul, Nat.reduceLT, Scd, encT, eq_true hc12, eq_true (ix_nn h_e13), m_e13, eq_true (ix_nn h_e14), m_e14, eq_true hc15, hc17, hc19, hc21]
            refine SemF.seq rfl ?_
            refine SemF.reg true rfl ?_
            try simp only [hgT, ↓w_gt, ↓v_gf, ↓v_gu, ↓reduceIte, reduceCtorEq, Nat.reduceAdd, Nat.reduceEqDiff, Nat.reduceLeDiff, Nat.reduceSub, Nat.reduceMul, Nat.reduceLT, Scd, encT, eq_true hc12, eq_true (ix_nn h_e13), m_e13, eq_true (ix_nn h_e14), m_e14, eq_true hc15, hc17, hc19, hc21]; (repeat refine fun (_ : _ ≤ lim) => ?_)
            refine SemF.ret rfl ?_
            try simp only [hgT, ↓w_gt, ↓v_gf, ↓v_gu, ↓reduceIte, reduceCtorEq, Nat.reduceAdd, Nat.reduceEqDiff, Nat.reduceLeDiff, Nat.reduceSub, Nat.reduceMul, Nat.reduceLT, Scd, encT, eq_true hc12, eq_true (ix_nn h_e13), m_e13, eq_true (ix_nn h_e14), m_e14, eq_true hc15, hc17, hc19, hc21]; (repeat refine fun (_ : _ ≤ lim) => ?_)
            obtain rfl := Option.some.inj h
            refine hr _ rfl _ _ ?_
            simp only [hgT, ↓w_gt, ↓v_gf, ↓v_gu, ↓reduceIte, reduceCtorEq, Nat.reduceAdd, Nat.reduceEqDiff, Nat.reduceLeDiff, Nat.reduceSub, Nat.reduceMul, Nat.reduceLT, Scd, encT, RetP_def, eq_true hc12, eq_true (ix_nn h_e13), m_e13, eq_true (ix_nn h_e14), m_e14, eq_true hc15, hc17, hc19, hc21]
        · rw [if_neg hc19] at h
          replace hc19 := eq_false_of_ne_true hc19
          try simp only [hgT, ↓w_gt, ↓v_gf, ↓v_gu, ↓reduceIte, reduceCtorEq, Nat.reduceAdd, Nat.reduceEqDiff, Nat.reduceLeDiff, Nat.reduceSub, Nat.reduceMul, Nat.reduceLT, Scd, encT, eq_true hc12, eq_true (ix_nn h_e13), m_e13, eq_true (ix_nn h_e14), m_e14, eq_true hc15, hc17, hc19]; (repeat refine fun (_ : _ ≤ lim) => ?_)
          refine SemF.cond rfl ?_
          simp only [hgT, ↓w_gt, ↓v_gf, ↓v_gu, ↓reduceIte, reduceCtorEq, Nat.reduceAdd, Nat.reduceEqDiff, Nat.reduceLeDiff, Nat.reduceSub, Nat.reduceMul, Nat.reduceLT, Scd, encT, eq_true hc12, eq_true (ix_nn h_e13), m_e13, eq_true (ix_nn h_e14), m_e14, eq_true hc15, hc17, hc19]
          refine SemF.seq rfl ?_
          refine SemF.reg true rfl ?_
          try simp only [hgT, ↓w_gt, ↓v_gf, ↓v_gu, ↓reduceIte, reduceCtorEq, Nat.reduceAdd, Nat.reduceEqDiff, Nat.reduceLeDiff, Nat.reduceSub, Nat.reduceMul, Nat.reduceLT, Scd, encT, eq_true hc12, eq_true (ix_nn h_e13), m_e13, eq_true (ix_nn h_e14), m_e14, eq_true hc15, hc17, hc19]; (repeat refine fun (_ : _ ≤ lim) => ?_)
          refine SemF.ret rfl ?_
          try simp only [hgT, ↓w_gt, ↓v_gf, ↓v_gu, ↓reduceIte, reduceCtorEq, Nat.reduceAdd, Nat.reduceEqDiff, Nat.reduceLeDiff, Nat.reduceSub, Nat.reduceMul, Nat.reduceLT, Scd, encT, eq_true hc12, eq_true (ix_nn h_e13), m_e13, eq_true (ix_nn h_e14), m_e14, eq_true hc15, hc17, hc19]; (repeat refine fun (_ : _ ≤ lim) => ?_)
          obtain rfl := Option.some.inj h
          refine hr _ rfl _ _ ?_
          simp only [hgT, ↓w_gt, ↓v_gf, ↓v_gu, ↓reduceIte, reduceCtorEq, Nat.reduceAdd, Nat.reduceEqDiff, Nat.reduceLeDiff, Nat.reduceSub, Nat.reduceMul, Nat.reduceLT, Scd, encT, RetP_def, eq_true hc12, eq_true (ix_nn h_e13), m_e13, eq_true (ix_nn h_e14), m_e14, eq_true hc15, hc17, hc19]
      · rw [if_neg hc17] at h
        replace hc17 := eq_false_of_ne_true hc17
        try simp only [hgT, ↓w_gt, ↓v_gf, ↓v_gu, ↓reduceIte, reduceCtorEq, Nat.reduceAdd, Nat.reduceEqDiff, Nat.reduceLeDiff, Nat.reduceSub, Nat.reduceMul, Nat.reduceLT, Scd, encT, eq_true hc12, eq_true (ix_nn h_e13), m_e13, eq_true (ix_nn h_e14), m_e14, eq_true hc15, hc17]; (repeat refine fun (_ : _ ≤ lim) => ?_)
        refine SemF.cond rfl ?_
        simp only [hgT, ↓w_gt, ↓v_gf, ↓v_gu, ↓reduceIte, reduceCtorEq, Nat.reduceAdd, Nat.reduceEqDiff, Nat.reduceLeDiff, Nat.reduceSub, Nat.reduceMul, Nat.reduceLT, Scd, encT, eq_true hc12, eq_true (ix_nn h_e13), m_e13, eq_true (ix_nn h_e14), m_e14, eq_true hc15, hc17]
        refine SemF.seq rfl ?_
        refine SemF.reg true rfl ?_
        try simp only [hgT, ↓w_gt, ↓v_gf, ↓v_gu, ↓reduceIte, reduceCtorEq, Nat.reduceAdd, Nat.reduceEqDiff, Nat.reduceLeDiff, Nat.reduceSub, Nat.reduceMul, Nat.reduceLT, Scd, encT, eq_true hc12, eq_true (ix_nn h_e13), m_e13, eq_true (ix_nn h_e14), m_e14, eq_true hc15, hc17]; (repeat refine fun (_ : _ ≤ lim) => ?_)
        refine SemF.ret rfl ?_
        try simp only [hgT, ↓w_gt, ↓v_gf, ↓v_gu, ↓reduceIte, reduceCtorEq, Nat.reduceAdd, Nat.reduceEqDiff, Nat.reduceLeDiff, Nat.reduceSub, Nat.reduceMul, Nat.reduceLT, Scd, encT, eq_true hc12, eq_true (ix_nn h_e13), m_e13, eq_true (ix_nn h_e14), m_e14, eq_true hc15, hc17]; (repeat refine fun (_ : _ ≤ lim) => ?_)
        obtain rfl := Option.some.inj h
        refine hr _ rfl _ _ ?_
        simp only [hgT, ↓w_gt, ↓v_gf, ↓v_gu, ↓reduceIte, reduceCtorEq, Nat.reduceAdd, Nat.reduceEqDiff, Nat.reduceLeDiff, Nat.reduceSub, Nat.reduceMul, Nat.reduceLT, Scd, encT, RetP_def, eq_true hc12, eq_true (ix_nn h_e13), m_e13, eq_true (ix_nn h_e14), m_e14, eq_true hc15, hc17]
    · rw [if_neg hc15] at h
      try simp only [hgT, ↓w_gt, ↓v_gf, ↓v_gu, ↓reduceIte, reduceCtorEq, Nat.reduceAdd, Nat.reduceEqDiff, Nat.reduceLeDiff, Nat.reduceSub, Nat.reduceMul, Nat.reduceLT, Scd, encT, eq_true hc12, eq_true (ix_nn h_e13), m_e13, eq_true (ix_nn h_e14), m_e14, eq_false hc15]; (repeat refine fun (_ : _ ≤ lim) => ?_)
      refine SemF.cond rfl ?_
      simp only [hgT, ↓w_gt, ↓v_gf, ↓v_gu, ↓reduceIte, reduceCtorEq, Nat.reduceAdd, Nat.reduceEqDiff, Nat.reduceLeDiff, Nat.reduceSub, Nat.reduceMul, Nat.reduceLT, Scd, encT, eq_true hc12, eq_true (ix_nn h_e13), m_e13, eq_true (ix_nn h_e14), m_e14, eq_false hc15]
      refine SemF.seq rfl ?_
      refine SemF.reg true rfl ?_
      try simp only [hgT, ↓w_gt, ↓v_gf, ↓v_gu, ↓reduceIte, reduceCtorEq, Nat.reduceAdd, Nat.reduceEqDiff, Nat.reduceLeDiff, Nat.reduceSub, Nat.reduceMul, Nat.reduceLT, Scd, encT, eq_true hc12, eq_true (ix_nn h_e13), m_e13, eq_true (ix_nn h_e14), m_e14, eq_false hc15]; (repeat refine fun (_ : _ ≤ lim) => ?_)
      refine SemF.ret rfl ?_
      try simp only [hgT, ↓w_gt, ↓v_gf, ↓v_gu, ↓reduceIte, reduceCtorEq, Nat.reduceAdd, Nat.reduceEqDiff, Nat.reduceLeDiff, Nat.reduceSub, Nat.reduceMul, Nat.reduceLT, Scd, encT, eq_true hc12, eq_true (ix_nn h_e13), m_e13, eq_true (ix_nn h_e14), m_e14, eq_false hc15]; (repeat refine fun (_ : _ ≤ lim) => ?_)
      obtain rfl := Option.some.inj h
      refine hr _ rfl _ _ ?_
      simp only [hgT, ↓w_gt, ↓v_gf, ↓v_gu, ↓reduceIte, reduceCtorEq, Nat.reduceAdd, Nat.reduceEqDiff, Nat.reduceLeDiff, Nat.reduceSub, Nat.reduceMul, Nat.reduceLT, Scd, encT, RetP_def, eq_true hc12, eq_true (ix_nn h_e13), m_e13, eq_true (ix_nn h_e14), m_e14, eq_false hc15]
  · rw [if_neg hc12] at h
    refine SemF.cond rfl ?_
    simp only [hgT, ↓w_gt, ↓v_gf, ↓v_gu, ↓reduceIte, reduceCtorEq, Nat.reduceAdd, Nat.reduceEqDiff, Nat.reduceLeDiff, Nat.reduceSub, Nat.reduceMul, Nat.reduceLT, Scd, encT, eq_false hc12]
    refine SemF.exit rfl ?_
    simp only [hgT, ↓w_gt, ↓v_gf, ↓v_gu, ↓reduceIte, reduceCtorEq, Nat.reduceAdd, Nat.reduceEqDiff, Nat.reduceLeDiff, Nat.reduceSub, Nat.reduceMul, Nat.reduceLT, Scd, encT, eq_false hc12]
    obtain rfl := Option.some.inj h
    refine hx _ rfl _ _ [] ⟨by simp only [hgT, ↓w_gt, ↓v_gf, ↓v_gu, ↓reduceIte, reduceCtorEq, Nat.reduceAdd, Nat.reduceEqDiff, Nat.reduceLeDiff, Nat.reduceSub, Nat.reduceMul, Nat.reduceLT, Scd, encT, hwT, selS, erT, eq_false hc12], by decide, by decide, by simp only [hgT, ↓w_gt, ↓v_gf, ↓v_gu, ↓reduceIte, reduceCtorEq, Nat.reduceAdd, Nat.reduceEqDiff, Nat.reduceLeDiff, Nat.reduceSub, Nat.reduceMul, Nat.reduceLT, Scd, encT, hwT, selS, erT, subR, eq_false hc12], by simp only [hgT, ↓w_gt, ↓v_gf, ↓v_gu, ↓reduceIte, reduceCtorEq, Nat.reduceAdd, Nat.reduceEqDiff, Nat.reduceLeDiff, Nat.reduceSub, Nat.reduceMul, Nat.reduceLT, Scd, encT, hwT, selS, erT, scT, Scd, esT, eq_false hc12], by simp only [hgT, ↓w_gt, ↓v_gf, ↓v_gu, ↓reduceIte, reduceCtorEq, Nat.reduceAdd, Nat.reduceEqDiff, Nat.reduceLeDiff, Nat.reduceSub, Nat.reduceMul, Nat.reduceLT, Scd, encT, hwT, selS, erT, scT, Scd, esT, eq_false hc12]⟩
theorem spec_SameExp_all : (∀ (x : (Exp × Exp)) (r : Bool), M.spec_SameExp x = some r → HCp P F.spec_SameExp [(Exp.enc x.1), (Exp.enc x.2)] (HV.bool r)) ∧
  (∀ (x : (Exp × Exp × Int)) (out : (Sum Bool Unit)), M.spec_SameExp_L1 x = some out → ∀ Q : HExit → Env → St → Prop, (∀ v, out = .inr v → ∀ env st sel, Weak 0 sel [] [] env st → Q (.exit 2) env st) → (∀ r, out = .inl r → ∀ env st, RetP [(4, none)] (HV.bool r) env st → Q .ret env st) → SemL P H.spec_SameExp.ntmps 0 H.spec_SameExp_l6 [(2, (.ptr 0 1 0 0)), (3, (.ptr 1 1 0 0)), (6, (.int .i64 x.2.2))] [(.box (Exp.enc x.1)), (.box (Exp.enc x.2.1))] Q) ∧
  (∀ (x : (Exp × Exp × Int)) (out : (Sum Bool Unit)), M.spec_SameExp_L0 x = some out → ∀ Q : HExit → Env → St → Prop, (∀ v, out = .inr v → ∀ env st sel, Weak 0 sel [(2, (.ptr 0 1 0 0)), (3, (.ptr 1 1 0 0))] [(.box (Exp.enc x.1)), (.box (Exp.enc x.2.1))] env st → Q (.exit 0) env st) → (∀ r, out = .inl r → ∀ env st, RetP [(4, none)] (HV.bool r) env st → Q .ret env st) → SemL P H.spec_SameExp.ntmps 0 H.spec_SameExp_l13 [(2, (.ptr 0 1 0 0)), (3, (.ptr 1 1 0 0)), (5, (.int .i64 x.2.2))] [(.box (Exp.enc x.1)), (.box (Exp.enc x.2.1))] Q) ∧
  (∀ (x : ((List Dec) × (List Dec))) (r : Bool), M.spec_l3SameDecs x = some r → HCp P F.spec_l3SameDecs [(.sl (List.map Dec.enc x.1)), (.sl (List.map Dec.enc x.2))] (HV.bool r)) ∧
  (∀ (x : ((List Dec) × (List Dec) × Int)) (out : (Sum Bool Unit)), M.spec_l3SameDecs_L0 x = some out → ∀ Q : HExit → Env → St → Prop, (∀ v, out = .inr v → ∀ env st sel, Weak 0 sel [] [] env st → Q (.exit 0) env st) → (∀ r, out = .inl r → ∀ env st, RetP [(4, none)] (HV.bool r) env st → Q .ret env st) → SemL P H.spec_l3SameDecs.ntmps 0 H.spec_l3SameDecs_l5 [(0, (.sl (List.map Dec.enc x.1))), (1, (.sl (List.map Dec.enc x.2.1))), (5, (.int .i64 x.2.2))] [] Q) := by
  refine M.spec_SameExp.mutual_partial_correctness (motive_1 := fun x r => HCp P F.spec_SameExp [(Exp.enc x.1), (Exp.enc x.2)] (HV.bool r)) (motive_2 := fun x out => ∀ Q : HExit → Env → St → Prop, (∀ v, out = .inr v → ∀ env st sel, Weak 0 sel [] [] env st → Q (.exit 2) env st) → (∀ r, out = .inl r → ∀ env st, RetP [(4, none)] (HV.bool r) env st → Q .ret env st) → SemL P H.spec_SameExp.ntmps 0 H.spec_SameExp_l6 [(2, (.ptr 0 1 0 0)), (3, (.ptr 1 1 0 0)), (6, (.int .i64 x.2.2))] [(.box (Exp.enc x.1)), (.box (Exp.enc x.2.1))] Q) (motive_3 := fun x out => ∀ Q : HExit → Env → St → Prop, (∀ v, out = .inr v → ∀ env st sel, Weak 0 sel [(2, (.ptr 0 1 0 0)), (3, (.ptr 1 1 0 0))] [(.box (Exp.enc x.1)), (.box (Exp.enc x.2.1))] env st → Q (.exit 0) env st) → (∀ r, out = .inl r → ∀ env st, RetP [(4, none)] (HV.bool r) env st → Q .ret env st) → SemL P H.spec_SameExp.ntmps 0 H.spec_SameExp_l13 [(2, (.ptr 0 1 0 0)), (3, (.ptr 1 1 0 0)), (5, (.int .i64 x.2.2))] [(.box (Exp.enc x.1)), (.box (Exp.enc x.2.1))] Q) (motive_4 := fun x r => HCp P F.spec_l3SameDecs [(.sl (List.map Dec.enc x.1)), (.sl (List.map Dec.enc x.2))] (HV.bool r)) (motive_5 := fun x out => ∀ Q : HExit → Env → St → Prop, (∀ v, out = .inr v → ∀ env st sel, Weak 0 sel [] [] env st → Q (.exit 0) env st) → (∀ r, out = .inl r → ∀ env st, RetP [(4, none)] (HV.bool r) env st → Q .ret env st) → SemL P H.spec_l3SameDecs.ntmps 0 H.spec_l3SameDecs_l5 [(0, (.sl (List.map Dec.enc x.1))), (1, (.sl (List.map Dec.enc x.2.1))), (5, (.int .i64 x.2.2))] [] Q) ?_ ?_ ?_ ?_ ?_
  · exact fun f_spec_SameExp_L1 f_spec_SameExp_L0 f_spec_l3SameDecs ih_spec_SameExp_L1 ih_spec_SameExp_L0 ih_spec_l3SameDecs x r h => K.spec_SameExp_step f_spec_SameExp_L1 f_spec_SameExp_L0 f_spec_l3SameDecs ih_spec_SameExp_L1 ih_spec_SameExp_L0 ih_spec_l3SameDecs x r h
  · exact fun f_spec_SameExp f_spec_SameExp_L1 ih_spec_SameExp ih_spec_SameExp_L1 x out h => K.spec_SameExp_L1_step f_spec_SameExp f_spec_SameExp_L1 ih_spec_SameExp ih_spec_SameExp_L1 x out h
  · exact fun f_spec_SameExp f_spec_SameExp_L0 ih_spec_SameExp ih_spec_SameExp_L0 x out h => K.spec_SameExp_L0_step f_spec_SameExp f_spec_SameExp_L0 ih_spec_SameExp ih_spec_SameExp_L0 x out h
  · exact fun f_spec_l3SameDecs_L0 ih_spec_l3SameDecs_L0 x r h => K.spec_l3SameDecs_step f_spec_l3SameDecs_L0 ih_spec_l3SameDecs_L0 x r h
  · exact fun f_spec_SameExp f_spec_l3SameDecs f_spec_l3SameDecs_L0 ih_spec_SameExp ih_spec_l3SameDecs ih_spec_l3SameDecs_L0 x out h => K.spec_l3SameDecs_L0_step f_spec_SameExp f_spec_l3SameDecs f_spec_l3SameDecs_L0 ih_spec_SameExp ih_spec_l3SameDecs ih_spec_l3SameDecs_L0 x out h
theorem spec_SameExp : (∀ (x : (Exp × Exp)) (r : Bool), M.spec_SameExp x = some r → HCp P F.spec_SameExp [(Exp.enc x.1), (Exp.enc x.2)] (HV.bool r)) := K.spec_SameExp_all.1
theorem spec_SameExp_L1 : (∀ (x : (Exp × Exp × Int)) (out : (Sum Bool Unit)), M.spec_SameExp_L1 x = some out → ∀ Q : HExit → Env → St → Prop, (∀ v, out = .inr v → ∀ env st sel, Weak 0 sel [] [] env st → Q (.exit 2) env st) → (∀ r, out = .inl r → ∀ env st, RetP [(4, none)] (HV.bool r) env st → Q .ret env st) → SemL P H.spec_SameExp.ntmps 0 H.spec_SameExp_l6 [(2, (.ptr 0 1 0 0)), (3, (.ptr 1 1 0 0)), (6, (.int .i64 x.2.2))] [(.box (Exp.enc x.1)), (.box (Exp.enc x.2.1))] Q) := K.spec_SameExp_all.2.1
theorem spec_SameExp_L0 : (∀ (x : (Exp × Exp × Int)) (out : (Sum Bool Unit)), M.spec_SameExp_L0 x = some out → ∀ Q : HExit → Env → St → Prop, (∀ v, out = .inr v → ∀ env st sel, Weak 0 sel [(2, (.ptr 0 1 0 0)), (3, (.ptr 1 1 0 0))] [(.box (Exp.enc x.1)), (.box (Exp.enc x.2.1))] env st → Q (.exit 0) env st) → (∀ r, out = .inl r → ∀ env st, RetP [(4, none)] (HV.bool r) env st → Q .ret env st) → SemL P H.spec_SameExp.ntmps 0 H.spec_SameExp_l13 [(2, (.ptr 0 1 0 0)), (3, (.ptr 1 1 0 0)), (5, (.int .i64 x.2.2))] [(.box (Exp.enc x.1)), (.box (Exp.enc x.2.1))] Q) := K.spec_SameExp_all.2.2.1
theorem spec_l3SameDecs : (∀ (x : ((List Dec) × (List Dec))) (r : Bool), M.spec_l3SameDecs x = some r → HCp P F.spec_l3SameDecs [(.sl (List.map Dec.enc x.1)), (.sl (List.map Dec.enc x.2))] (HV.bool r)) := K.spec_SameExp_all.2.2.2.1
theorem spec_l3SameDecs_L0 : (∀ (x : ((List Dec) × (List Dec) × Int)) (out : (Sum Bool Unit)), M.spec_l3SameDecs_L0 x = some out → ∀ Q : HExit → Env → St → Prop, (∀ v, out = .inr v → ∀ env st sel, Weak 0 sel [] [] env st → Q (.exit 0) env st) → (∀ r, out = .inl r → ∀ env st, RetP [(4, none)] (HV.bool r) env st → Q .ret env st) → SemL P H.spec_l3SameDecs.ntmps 0 H.spec_l3SameDecs_l5 [(0, (.sl (List.map Dec.enc x.1))), (1, (.sl (List.map Dec.enc x.2.1))), (5, (.int .i64 x.2.2))] [] Q) := K.spec_SameExp_all.2.2.2.2
theorem laws_szStringS_L0 : ∀ (x : ((List ByteArray) × Int × Int)) (out : (Sum Int Int)), M.laws_szStringS_L0 x = some out → ∀ Q : HExit → Env → St → Prop, (∀ v, out = .inr v → ∀ env st sel, Weak 0 sel [(1, (.int .i64 v))] [] env st → Q (.exit 0) env st) → (∀ r, out = .inl r → ∀ env st, RetP [(4, none)] (HV.int .i64 r) env st → Q .ret env st) → SemL P H.laws_szStringS.ntmps 0 H.laws_szStringS_l6 [(0, (.sl (List.map HV.str x.1))), (1, (.int .i64 x.2.1)), (5, (.int .i64 x.2.2))] [] Q := by
  refine M.laws_szStringS_L0.partial_correctness (motive := fun x out => ∀ Q : HExit → Env → St → Prop, (∀ v, out = .inr v → ∀ env st sel, Weak 0 sel [(1, (.int .i64 v))] [] env st → Q (.exit 0) env st) → (∀ r, out = .inl r → ∀ env st, RetP [(4, none)] (HV.int .i64 r) env st → Q .ret env st) → SemL P H.laws_szStringS.ntmps 0 H.laws_szStringS_l6 [(0, (.sl (List.map HV.str x.1))), (1, (.int .i64 x.2.1)), (5, (.int .i64 x.2.2))] [] Q) ?_
  intro f_laws_szStringS_L0 ih_laws_szStringS_L0 x out h
  obtain ⟨p0, t1_L0, t5_L0⟩ := x
  try dsimp only at h
  intro Q hx hr
  refine SemL.round ?_
  try dsimp only at hx
  refine SemF.seq rfl ?_
  refine SemF.seq rfl ?_
  refine SemF.reg true rfl ?_
  try simp only [hgT, ↓w_gt, ↓v_gf, ↓v_gu, ↓reduceIte, reduceCtorEq, Nat.reduceAdd, Nat.reduceEqDiff, Nat.reduceLeDiff, Nat.reduceSub, Nat.reduceMul, Nat.reduceLT, Scd, encT]; (repeat refine fun (_ : _ ≤ lim) => ?_)
  (repeat refine fun (_ : _ ≤ lim) => ?_)
  by_cases hc5 : t5_L0 < ((p0.length : Nat) : Int)
  · rw [if_pos hc5] at h
    refine SemF.cond rfl ?_
    simp only [hgT, ↓w_gt, ↓v_gf, ↓v_gu, ↓reduceIte, reduceCtorEq, Nat.reduceAdd, Nat.reduceEqDiff, Nat.reduceLeDiff, Nat.reduceSub, Nat.reduceMul, Nat.reduceLT, Scd, encT, eq_true hc5]
    refine SemF.skip rfl ?_
    simp only [hgT, ↓w_gt, ↓v_gf, ↓v_gu, ↓reduceIte, reduceCtorEq, Nat.reduceAdd, Nat.reduceEqDiff, Nat.reduceLeDiff, Nat.reduceSub, Nat.reduceMul, Nat.reduceLT, Scd, encT, eq_true hc5]
    refine SemF.seq rfl ?_
    refine SemF.block rfl ?_
    refine SemF.seq rfl ?_
    refine SemF.reg true rfl ?_
    try simp only [hgT, ↓w_gt, ↓v_gf, ↓v_gu, ↓reduceIte, reduceCtorEq, Nat.reduceAdd, Nat.reduceEqDiff, Nat.reduceLeDiff, Nat.reduceSub, Nat.reduceMul, Nat.reduceLT, Scd, encT, eq_true hc5]; (repeat refine fun (_ : _ ≤ lim) => ?_)
    obtain ⟨e6, h_e6, h⟩ := bs h
    have m_e6 := ixm (f := HV.str) (ix_get h_e6)
    try simp only [hgT, ↓w_gt, ↓v_gf, ↓v_gu, ↓reduceIte, reduceCtorEq, Nat.reduceAdd, Nat.reduceEqDiff, Nat.reduceLeDiff, Nat.reduceSub, Nat.reduceMul, Nat.reduceLT, Scd, encT, eq_true hc5, eq_true (ix_nn h_e6), m_e6]; (repeat refine fun (_ : _ ≤ lim) => ?_)
    (repeat refine fun (_ : _ ≤ lim) => ?_)
    refine SemF.seq rfl ?_
    refine SemF.reg true rfl ?_
    try simp only [hgT, ↓w_gt, ↓v_gf, ↓v_gu, ↓reduceIte, reduceCtorEq, Nat.reduceAdd, Nat.reduceEqDiff, Nat.reduceLeDiff, Nat.reduceSub, Nat.reduceMul, Nat.reduceLT, Scd, encT, eq_true hc5, eq_true (ix_nn h_e6), m_e6]; (repeat refine fun (_ : _ ≤ lim) => ?_)
    by_cases hc7 : (IntKind.i64.wrap (t1_L0 - ((e6.size : Nat) : Int))) < 0
    · rw [if_pos hc7] at h
      refine SemF.cond rfl ?_
      simp only [hgT, ↓w_gt, ↓v_gf, ↓v_gu, ↓reduceIte, reduceCtorEq, Nat.reduceAdd, Nat.reduceEqDiff, Nat.reduceLeDiff, Nat.reduceSub, Nat.reduceMul, Nat.reduceLT, Scd, encT, eq_true hc5, eq_true (ix_nn h_e6), m_e6, eq_true hc7]
      refine SemF.seq rfl ?_
      refine SemF.reg true rfl ?_
      try simp only [hgT, ↓w_gt, ↓v_gf, ↓v_gu, ↓reduceIte, reduceCtorEq, Nat.reduceAdd, Nat.reduceEqDiff, Nat.reduceLeDiff, Nat.reduceSub, Nat.reduceMul, Nat.reduceLT, Scd, encT, eq_true hc5, eq_true (ix_nn h_e6), m_e6, eq_true hc7]; (repeat refine fun (_ : _ ≤ lim) => ?_)
      refine SemF.ret rfl ?_
      try simp only [hgT, ↓w_gt, ↓v_gf, ↓v_gu, ↓reduceIte, reduceCtorEq, Nat.reduceAdd, Nat.reduceEqDiff, Nat.reduceLeDiff, Nat.reduceSub, Nat.reduceMul, Nat.reduceLT, Scd, encT, eq_true hc5, eq_true (ix_nn h_e6), m_e6, eq_true hc7]; (repeat refine fun (_ : _ ≤ lim) => ?_)
      obtain rfl := Option.some.inj h
      refine hr _ rfl _ _ ?_
      simp only [hgT, ↓w_gt, ↓v_gf, ↓v_gu, ↓reduceIte, reduceCtorEq, Nat.reduceAdd, Nat.reduceEqDiff, Nat.reduceLeDiff, Nat.reduceSub, Nat.reduceMul, Nat.reduceLT, Scd, encT, RetP_def, eq_true hc5, eq_true (ix_nn h_e6), m_e6, eq_true hc7]
    · rw [if_neg hc7] at h
      refine SemF.cond rfl ?_
      simp only [hgT, ↓w_gt, ↓v_gf, ↓v_gu, ↓reduceIte, reduceCtorEq, Nat.reduceAdd, Nat.reduceEqDiff, Nat.reduceLeDiff, Nat.reduceSub, Nat.reduceMul, Nat.reduceLT, Scd, encT, eq_true hc5, eq_true (ix_nn h_e6), m_e6, eq_false hc7]
      refine SemF.skip rfl ?_
      simp only [hgT, ↓w_gt, ↓v_gf, ↓v_gu, ↓reduceIte, reduceCtorEq, Nat.reduceAdd, Nat.reduceEqDiff, Nat.reduceLeDiff, Nat.reduceSub, Nat.reduceMul, Nat.reduceLT, Scd, encT, eq_true hc5, eq_true (ix_nn h_e6), m_e6, eq_false hc7]
      refine SemF.reg true rfl ?_
      try simp only [hgT, ↓w_gt, ↓v_gf, ↓v_gu, ↓reduceIte, reduceCtorEq, Nat.reduceAdd, Nat.reduceEqDiff, Nat.reduceLeDiff, Nat.reduceSub, Nat.reduceMul, Nat.reduceLT, Scd, encT, eq_true hc5, eq_true (ix_nn h_e6), m_e6, eq_false hc7]; (repeat refine fun (_ : _ ≤ lim) => ?_)
      refine SemL.weak (sel := []) ⟨by simp only [hgT, ↓w_gt, ↓v_gf, ↓v_gu, ↓reduceIte, reduceCtorEq, Nat.reduceAdd, Nat.reduceEqDiff, Nat.reduceLeDiff, Nat.reduceSub, Nat.reduceMul, Nat.reduceLT, Scd, encT, hwT, selS, erT, eq_true hc5, eq_true (ix_nn h_e6), m_e6, eq_false hc7], by decide, by decide, by simp only [hgT, ↓w_gt, ↓v_gf, ↓v_gu, ↓reduceIte, reduceCtorEq, Nat.reduceAdd, Nat.reduceEqDiff, Nat.reduceLeDiff, Nat.reduceSub, Nat.reduceMul, Nat.reduceLT, Scd, encT, hwT, selS, erT, subR, eq_true hc5, eq_true (ix_nn h_e6), m_e6, eq_false hc7], by simp only [hgT, ↓w_gt, ↓v_gf, ↓v_gu, ↓reduceIte, reduceCtorEq, Nat.reduceAdd, Nat.reduceEqDiff, Nat.reduceLeDiff, Nat.reduceSub, Nat.reduceMul, Nat.reduceLT, Scd, encT, hwT, selS, erT, scT, Scd, esT, eq_true hc5, eq_true (ix_nn h_e6), m_e6, eq_false hc7], by simp only [hgT, ↓w_gt, ↓v_gf, ↓v_gu, ↓reduceIte, reduceCtorEq, Nat.reduceAdd, Nat.reduceEqDiff, Nat.reduceLeDiff, Nat.reduceSub, Nat.reduceMul, Nat.reduceLT, Scd, encT, hwT, selS, erT, scT, Scd, esT, eq_true hc5, eq_true (ix_nn h_e6), m_e6, eq_false hc7]⟩ (ih_laws_szStringS_L0 (p0, (IntKind.i64.wrap (t1_L0 - ((e6.size : Nat) : Int))), (IntKind.i64.wrap (t5_L0 + 1))) out h Q hx hr)
  · rw [if_neg hc5] at h
    refine SemF.cond rfl ?_
    simp only [hgT, ↓w_gt, ↓v_gf, ↓v_gu, ↓reduceIte, reduceCtorEq, Nat.reduceAdd, Nat.reduceEqDiff, Nat.reduceLeDiff, Nat.reduceSub, Nat.reduceMul, Nat.reduceLT, Scd, encT, eq_false hc5]
    refine SemF.exit rfl ?_
    simp only [hgT, ↓w_gt, ↓v_gf, ↓v_gu, ↓reduceIte, reduceCtorEq, Nat.reduceAdd, Nat.reduceEqDiff, Nat.reduceLeDiff, Nat.reduceSub, Nat.reduceMul, Nat.reduceLT, Scd, encT, eq_false hc5]
    obtain rfl := Option.some.inj h
    refine hx _ rfl _ _ [] ⟨by simp only [hgT, ↓w_gt, ↓v_gf, ↓v_gu, ↓reduceIte, reduceCtorEq, Nat.reduceAdd, Nat.reduceEqDiff, Nat.reduceLeDiff, Nat.reduceSub, Nat.reduceMul, Nat.reduceLT, Scd, encT, hwT, selS, erT, eq_false hc5], by decide, by decide, by simp only [hgT, ↓w_gt, ↓v_gf, ↓v_gu, ↓reduceIte, reduceCtorEq, Nat.reduceAdd, Nat.reduceEqDiff, Nat.reduceLeDiff, Nat.reduceSub, Nat.reduceMul, Nat.reduceLT, Scd, encT, hwT, selS, erT, subR, eq_false hc5], by simp only [hgT, ↓w_gt, ↓v_gf, ↓v_gu, ↓reduceIte, reduceCtorEq, Nat.reduceAdd, Nat.reduceEqDiff, Nat.reduceLeDiff, Nat.reduceSub, Nat.reduceMul, Nat.reduceLT, Scd, encT, hwT, selS, erT, scT, Scd, esT, eq_false hc5], by simp only [hgT, ↓w_gt, ↓v_gf, ↓v_gu, ↓reduceIte, reduceCtorEq, Nat.reduceAdd, Nat.reduceEqDiff, Nat.reduceLeDiff, Nat.reduceSub, Nat.reduceMul, Nat.reduceLT, Scd, encT, hwT, selS, erT, scT, Scd, esT, eq_false hc5]⟩
end K
end W
