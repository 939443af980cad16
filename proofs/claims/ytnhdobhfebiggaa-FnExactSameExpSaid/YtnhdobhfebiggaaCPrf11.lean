import Derived.Test.YtnhdobhfebiggaaCPrf10
namespace W
set_option linter.unusedSimpArgs false
open Go HL S
set_option linter.unusedVariables false
set_option maxRecDepth 100000
set_option maxHeartbeats 4000000
namespace K
theorem laws_FnExactSameExp : ∀ (x : (Exp × Exp)) (r : Bool), M.laws_FnExactSameExp x = some r → HCp P F.laws_FnExactSameExp [(Exp.enc x.1), (Exp.enc x.2)] (HV.bool r) := by
  intro x r h
  obtain ⟨p0, p1⟩ := x
  unfold M.laws_FnExactSameExp at h
  try dsimp only at h
  refine HCp.mkF S.laws_FnExactSameExp (by simp [H.laws_FnExactSameExp]) (by simp only [scT, Scd, esT, and_self, true_and, and_true]) ?_
  simp only [hgT, ↓w_gt, ↓v_gf, ↓v_gu, ↓reduceIte, reduceCtorEq, Nat.reduceAdd, Nat.reduceEqDiff, Nat.reduceLeDiff, Nat.reduceSub, Nat.reduceMul, Nat.reduceLT, Scd, encT, H.laws_FnExactSameExp]
  refine SemF.seq rfl ?_
  refine SemF.reg true rfl ?_
  try simp only [hgT, ↓w_gt, ↓v_gf, ↓v_gu, ↓reduceIte, reduceCtorEq, Nat.reduceAdd, Nat.reduceEqDiff, Nat.reduceLeDiff, Nat.reduceSub, Nat.reduceMul, Nat.reduceLT, Scd, encT]; (repeat refine fun (_ : _ ≤ lim) => ?_)
  refine SemF.seq rfl ?_
  refine SemF.reg true rfl ?_
  try simp only [hgT, ↓w_gt, ↓v_gf, ↓v_gu, ↓reduceIte, reduceCtorEq, Nat.reduceAdd, Nat.reduceEqDiff, Nat.reduceLeDiff, Nat.reduceSub, Nat.reduceMul, Nat.reduceLT, Scd, encT]; (repeat refine fun (_ : _ ≤ lim) => ?_)
  refine SemF.seq rfl ?_
  refine SemF.reg true rfl ?_
  try simp only [hgT, ↓w_gt, ↓v_gf, ↓v_gu, ↓reduceIte, reduceCtorEq, Nat.reduceAdd, Nat.reduceEqDiff, Nat.reduceLeDiff, Nat.reduceSub, Nat.reduceMul, Nat.reduceLT, Scd, encT]; (repeat refine fun (_ : _ ≤ lim) => ?_)
  obtain ⟨r1, h_r1, h⟩ := bs h
  refine HCp.callE (K.laws_szExp (p0, 1048576) r1 h_r1) (by simp only [hgT, ↓w_gt, ↓v_gf, ↓v_gu, ↓reduceIte, reduceCtorEq, Nat.reduceAdd, Nat.reduceEqDiff, Nat.reduceLeDiff, Nat.reduceSub, Nat.reduceMul, Nat.reduceLT, Scd, encT]) (by simp only [scT, Scd, esT, and_self, true_and, and_true]) (by simp only [scT, Scd, esT, and_self, true_and, and_true]) ?_
  try simp only [hgT, ↓w_gt, ↓v_gf, ↓v_gu, ↓reduceIte, reduceCtorEq, Nat.reduceAdd, Nat.reduceEqDiff, Nat.reduceLeDiff, Nat.reduceSub, Nat.reduceMul, Nat.reduceLT, Scd, encT]; (repeat refine fun (_ : _ ≤ lim) => ?_)
  refine SemF.seq rfl ?_
  refine SemF.seq rfl ?_
  refine SemF.reg true rfl ?_
  try simp only [hgT, ↓w_gt, ↓v_gf, ↓v_gu, ↓reduceIte, reduceCtorEq, Nat.reduceAdd, Nat.reduceEqDiff, Nat.reduceLeDiff, Nat.reduceSub, Nat.reduceMul, Nat.reduceLT, Scd, encT]; (repeat refine fun (_ : _ ≤ lim) => ?_)
  by_cases hc2 : r1 < 0
  · rw [if_pos hc2] at h
    refine SemF.cond rfl ?_
    simp only [hgT, ↓w_gt, ↓v_gf, ↓v_gu, ↓reduceIte, reduceCtorEq, Nat.reduceAdd, Nat.reduceEqDiff, Nat.reduceLeDiff, Nat.reduceSub, Nat.reduceMul, Nat.reduceLT, Scd, encT, eq_true hc2]
    refine SemF.seq rfl ?_
    refine SemF.reg true rfl ?_
    try simp only [hgT, ↓w_gt, ↓v_gf, ↓v_gu, ↓reduceIte, reduceCtorEq, Nat.reduceAdd, Nat.reduceEqDiff, Nat.reduceLeDiff, Nat.reduceSub, Nat.reduceMul, Nat.reduceLT, Scd, encT, eq_true hc2]; (repeat refine fun (_ : _ ≤ lim) => ?_)
    refine SemF.ret rfl ?_
    try simp only [hgT, ↓w_gt, ↓v_gf, ↓v_gu, ↓reduceIte, reduceCtorEq, Nat.reduceAdd, Nat.reduceEqDiff, Nat.reduceLeDiff, Nat.reduceSub, Nat.reduceMul, Nat.reduceLT, Scd, encT, eq_true hc2]; (repeat refine fun (_ : _ ≤ lim) => ?_)
    obtain rfl := Option.some.inj h
    simp only [hgT, ↓w_gt, ↓v_gf, ↓v_gu, ↓reduceIte, reduceCtorEq, Nat.reduceAdd, Nat.reduceEqDiff, Nat.reduceLeDiff, Nat.reduceSub, Nat.reduceMul, Nat.reduceLT, Scd, encT, RetP_def, eq_true hc2]
  · rw [if_neg hc2] at h
    refine SemF.cond rfl ?_
    simp only [hgT, ↓w_gt, ↓v_gf, ↓v_gu, ↓reduceIte, reduceCtorEq, Nat.reduceAdd, Nat.reduceEqDiff, Nat.reduceLeDiff, Nat.reduceSub, Nat.reduceMul, Nat.reduceLT, Scd, encT, eq_false hc2]
    refine SemF.skip rfl ?_
    simp only [hgT, ↓w_gt, ↓v_gf, ↓v_gu, ↓reduceIte, reduceCtorEq, Nat.reduceAdd, Nat.reduceEqDiff, Nat.reduceLeDiff, Nat.reduceSub, Nat.reduceMul, Nat.reduceLT, Scd, encT, eq_false hc2]
    refine SemF.seq rfl ?_
    refine SemF.reg true rfl ?_
    try simp only [hgT, ↓w_gt, ↓v_gf, ↓v_gu, ↓reduceIte, reduceCtorEq, Nat.reduceAdd, Nat.reduceEqDiff, Nat.reduceLeDiff, Nat.reduceSub, Nat.reduceMul, Nat.reduceLT, Scd, encT, eq_false hc2]; (repeat refine fun (_ : _ ≤ lim) => ?_)
    obtain ⟨r3, h_r3, h⟩ := bs h
    refine HCp.callE (K.laws_szExp (p1, r1) r3 h_r3) (by simp only [hgT, ↓w_gt, ↓v_gf, ↓v_gu, ↓reduceIte, reduceCtorEq, Nat.reduceAdd, Nat.reduceEqDiff, Nat.reduceLeDiff, Nat.reduceSub, Nat.reduceMul, Nat.reduceLT, Scd, encT, eq_false hc2]) (by simp only [scT, Scd, esT, and_self, true_and, and_true]) (by simp only [scT, Scd, esT, and_self, true_and, and_true]) ?_
    try simp only [hgT, ↓w_gt, ↓v_gf, ↓v_gu, ↓reduceIte, reduceCtorEq, Nat.reduceAdd, Nat.reduceEqDiff, Nat.reduceLeDiff, Nat.reduceSub, Nat.reduceMul, Nat.reduceLT, Scd, encT, eq_false hc2]; (repeat refine fun (_ : _ ≤ lim) => ?_)
    refine SemF.seq rfl ?_
    refine SemF.seq rfl ?_
    refine SemF.reg true rfl ?_
    try simp only [hgT, ↓w_gt, ↓v_gf, ↓v_gu, ↓reduceIte, reduceCtorEq, Nat.reduceAdd, Nat.reduceEqDiff, Nat.reduceLeDiff, Nat.reduceSub, Nat.reduceMul, Nat.reduceLT, Scd, encT, eq_false hc2]; (repeat refine fun (_ : _ ≤ lim) => ?_)
    by_cases hc4 : r3 < 0
    · rw [if_pos hc4] at h
      refine SemF.cond rfl ?_
      simp only [hgT, ↓w_gt, ↓v_gf, ↓v_gu, ↓reduceIte, reduceCtorEq, Nat.reduceAdd, Nat.reduceEqDiff, Nat.reduceLeDiff, Nat.reduceSub, Nat.reduceMul, Nat.reduceLT, Scd, encT, eq_false hc2, eq_true hc4]
      refine SemF.seq rfl ?_
      refine SemF.reg true rfl ?_
      try simp only [hgT, ↓w_gt, ↓v_gf, ↓v_gu, ↓reduceIte, reduceCtorEq, Nat.reduceAdd, Nat.reduceEqDiff, Nat.reduceLeDiff, Nat.reduceSub, Nat.reduceMul, Nat.reduceLT, Scd, encT, eq_false hc2, eq_true hc4]; (repeat refine fun (_ : _ ≤ lim) => ?_)
      refine SemF.ret rfl ?_
      try simp only [hgT, ↓w_gt, ↓v_gf, ↓v_gu, ↓reduceIte, reduceCtorEq, Nat.reduceAdd, Nat.reduceEqDiff, Nat.reduceLeDiff, Nat.reduceSub, Nat.reduceMul, Nat.reduceLT, Scd, encT, eq_false hc2, eq_true hc4]; (repeat refine fun (_ : _ ≤ lim) => ?_)
      obtain rfl := Option.some.inj h
      simp only [hgT, ↓w_gt, ↓v_gf, ↓v_gu, ↓reduceIte, reduceCtorEq, Nat.reduceAdd, Nat.reduceEqDiff, Nat.reduceLeDiff, Nat.reduceSub, Nat.reduceMul, Nat.reduceLT, Scd, encT, RetP_def, eq_false hc2, eq_true hc4]
    · rw [if_neg hc4] at h
      refine SemF.cond rfl ?_
      simp only [hgT, ↓w_gt, ↓v_gf, ↓v_gu, ↓reduceIte, reduceCtorEq, Nat.reduceAdd, Nat.reduceEqDiff, Nat.reduceLeDiff, Nat.reduceSub, Nat.reduceMul, Nat.reduceLT, Scd, encT, eq_false hc2, eq_false hc4]
      refine SemF.skip rfl ?_
      simp only [hgT, ↓w_gt, ↓v_gf, ↓v_gu, ↓reduceIte, reduceCtorEq, Nat.reduceAdd, Nat.reduceEqDiff, Nat.reduceLeDiff, Nat.reduceSub, Nat.reduceMul, Nat.reduceLT, Scd, encT, eq_false hc2, eq_false hc4]
      refine SemF.seq rfl ?_
      refine SemF.dreg true rfl ?_
      try simp only [hgT, ↓w_gt, ↓v_gf, ↓v_gu, ↓reduceIte, reduceCtorEq, Nat.reduceAdd, Nat.reduceEqDiff, Nat.reduceLeDiff, Nat.reduceSub, Nat.reduceMul, Nat.reduceLT, Scd, encT, eq_false hc2, eq_false hc4]; (repeat refine fun (_ : _ ≤ lim) => ?_)
      obtain ⟨r5, h_r5, h⟩ := bs h
      refine HCp.callE (K.laws_toExp p0 r5 h_r5) (by simp only [hgT, ↓w_gt, ↓v_gf, ↓v_gu, ↓reduceIte, reduceCtorEq, Nat.reduceAdd, Nat.reduceEqDiff, Nat.reduceLeDiff, Nat.reduceSub, Nat.reduceMul, Nat.reduceLT, Scd, encT, eq_false hc2, eq_false hc4]) (by simp only [scT, Scd, esT, and_self, true_and, and_true]) (by simp only [scT, Scd, esT, and_self, true_and, and_true]) ?_
      try simp only [hgT, ↓w_gt, ↓v_gf, ↓v_gu, ↓reduceIte, reduceCtorEq, Nat.reduceAdd, Nat.reduceEqDiff, Nat.reduceLeDiff, Nat.reduceSub, Nat.reduceMul, Nat.reduceLT, Scd, encT, eq_false hc2, eq_false hc4]; (repeat refine fun (_ : _ ≤ lim) => ?_)
      obtain ⟨r6, h_r6, h⟩ := bs h
      refine HCp.callE (K.laws_toExp p1 r6 h_r6) (by simp only [hgT, ↓w_gt, ↓v_gf, ↓v_gu, ↓reduceIte, reduceCtorEq, Nat.reduceAdd, Nat.reduceEqDiff, Nat.reduceLeDiff, Nat.reduceSub, Nat.reduceMul, Nat.reduceLT, Scd, encT, eq_false hc2, eq_false hc4]) (by simp only [scT, Scd, esT, and_self, true_and, and_true]) (by simp only [scT, Scd, esT, and_self, true_and, and_true]) ?_
      try simp only [hgT, ↓w_gt, ↓v_gf, ↓v_gu, ↓reduceIte, reduceCtorEq, Nat.reduceAdd, Nat.reduceEqDiff, Nat.reduceLeDiff, Nat.reduceSub, Nat.reduceMul, Nat.reduceLT, Scd, encT, eq_false hc2, eq_false hc4]; (repeat refine fun (_ : _ ≤ lim) => ?_)
      obtain ⟨r7, h_r7, h⟩ := bs h
      refine HCp.callE (K.spec_SameExp (r5, r6) r7 h_r7) (by simp only [hgT, ↓w_gt, ↓v_gf, ↓v_gu, ↓reduceIte, reduceCtorEq, Nat.reduceAdd, Nat.reduceEqDiff, Nat.reduceLeDiff, Nat.reduceSub, Nat.reduceMul, Nat.reduceLT, Scd, encT, eq_false hc2, eq_false hc4]) (by simp only [scT, Scd, esT, and_self, true_and, and_true]) (by simp only [scT, Scd, esT, and_self, true_and, and_true]) ?_
      try simp only [hgT, ↓w_gt, ↓v_gf, ↓v_gu, ↓reduceIte, reduceCtorEq, Nat.reduceAdd, Nat.reduceEqDiff, Nat.reduceLeDiff, Nat.reduceSub, Nat.reduceMul, Nat.reduceLT, Scd, encT, eq_false hc2, eq_false hc4]; (repeat refine fun (_ : _ ≤ lim) => ?_)
      refine SemF.seq rfl ?_
      refine SemF.reg true rfl ?_
      try simp only [hgT, ↓w_gt, ↓v_gf, ↓v_gu, ↓reduceIte, reduceCtorEq, Nat.reduceAdd, Nat.reduceEqDiff, Nat.reduceLeDiff, Nat.reduceSub, Nat.reduceMul, Nat.reduceLT, Scd, encT, eq_false hc2, eq_false hc4]; (repeat refine fun (_ : _ ≤ lim) => ?_)
      obtain ⟨r8, h_r8, h⟩ := bs h
      refine HCp.callE (K.laws_toExp p0 r8 h_r8) (by simp only [hgT, ↓w_gt, ↓v_gf, ↓v_gu, ↓reduceIte, reduceCtorEq, Nat.reduceAdd, Nat.reduceEqDiff, Nat.reduceLeDiff, Nat.reduceSub, Nat.reduceMul, Nat.reduceLT, Scd, encT, eq_false hc2, eq_false hc4]) (by simp only [scT, Scd, esT, and_self, true_and, and_true]) (by simp only [scT, Scd, esT, and_self, true_and, and_true]) ?_
      try simp only [hgT, ↓w_gt, ↓v_gf, ↓v_gu, ↓reduceIte, reduceCtorEq, Nat.reduceAdd, Nat.reduceEqDiff, Nat.reduceLeDiff, Nat.reduceSub, Nat.reduceMul, Nat.reduceLT, Scd, encT, eq_false hc2, eq_false hc4]; (repeat refine fun (_ : _ ≤ lim) => ?_)
      refine SemF.seq rfl ?_
      refine SemF.reg true rfl ?_
      try simp only [hgT, ↓w_gt, ↓v_gf, ↓v_gu, ↓reduceIte, reduceCtorEq, Nat.reduceAdd, Nat.reduceEqDiff, Nat.reduceLeDiff, Nat.reduceSub, Nat.reduceMul, Nat.reduceLT, Scd, encT, eq_false hc2, eq_false hc4]; (repeat refine fun (_ : _ ≤ lim) => ?_)
      obtain ⟨r9, h_r9, h⟩ := bs h
      refine HCp.callE (K.laws_toExp p1 r9 h_r9) (by simp only [hgT, ↓w_gt, ↓v_gf, ↓v_gu, ↓reduceIte, reduceCtorEq, Nat.reduceAdd, Nat.reduceEqDiff, Nat.reduceLeDiff, Nat.reduceSub, Nat.reduceMul, Nat.reduceLT, Scd, encT, eq_false hc2, eq_false hc4]) (by simp only [scT, Scd, esT, and_self, true_and, and_true]) (by simp only [scT, Scd, esT, and_self, true_and, and_true]) ?_
      try simp only [hgT, ↓w_gt, ↓v_gf, ↓v_gu, ↓reduceIte, reduceCtorEq, Nat.reduceAdd, Nat.reduceEqDiff, Nat.reduceLeDiff, Nat.reduceSub, Nat.reduceMul, Nat.reduceLT, Scd, encT, eq_false hc2, eq_false hc4]; (repeat refine fun (_ : _ ≤ lim) => ?_)
      refine SemF.seq rfl ?_
      refine SemF.reg true rfl ?_
      try simp only [hgT, ↓w_gt, ↓v_gf, ↓v_gu, ↓reduceIte, reduceCtorEq, Nat.reduceAdd, Nat.reduceEqDiff, Nat.reduceLeDiff, Nat.reduceSub, Nat.reduceMul, Nat.reduceLT, Scd, encT, eq_false hc2, eq_false hc4]; (repeat refine fun (_ : _ ≤ lim) => ?_)
      obtain ⟨r10, h_r10, h⟩ := bs h
      refine HCp.callE (K.impl_SameExp (r8, r9) r10 h_r10) (by simp only [hgT, ↓w_gt, ↓v_gf, ↓v_gu, ↓reduceIte, reduceCtorEq, Nat.reduceAdd, Nat.reduceEqDiff, Nat.reduceLeDiff, Nat.reduceSub, Nat.reduceMul, Nat.reduceLT, Scd, encT, eq_false hc2, eq_false hc4]) (by simp only [scT, Scd, esT, and_self, true_and, and_true]) (by simp only [scT, Scd, esT, and_self, true_and, and_true]) ?_
      try simp only [hgT, ↓w_gt, ↓v_gf, ↓v_gu, ↓reduceIte, reduceCtorEq, Nat.reduceAdd, Nat.reduceEqDiff, Nat.reduceLeDiff, Nat.reduceSub, Nat.reduceMul, Nat.reduceLT, Scd, encT, eq_false hc2, eq_false hc4]; (repeat refine fun (_ : _ ≤ lim) => ?_)
      refine SemF.seq rfl ?_
      refine SemF.seq rfl ?_
      refine SemF.reg true rfl ?_
      try simp only [hgT, ↓w_gt, ↓v_gf, ↓v_gu, ↓reduceIte, reduceCtorEq, Nat.reduceAdd, Nat.reduceEqDiff, Nat.reduceLeDiff, Nat.reduceSub, Nat.reduceMul, Nat.reduceLT, Scd, encT, eq_false hc2, eq_false hc4]; (repeat refine fun (_ : _ ≤ lim) => ?_)
      by_cases hc11 : (r10 == r7) = true
      · rw [if_pos hc11] at h
        refine SemF.cond rfl ?_
        simp only [hgT, ↓w_gt, ↓v_gf, ↓v_gu, ↓reduceIte, reduceCtorEq, Nat.reduceAdd, Nat.reduceEqDiff, Nat.reduceLeDiff, Nat.reduceSub, Nat.reduceMul, Nat.reduceLT, Scd, encT, eq_false hc2, eq_false hc4, hc11]
        refine SemF.skip rfl ?_
        simp only [hgT, ↓w_gt, ↓v_gf, ↓v_gu, ↓reduceIte, reduceCtorEq, Nat.reduceAdd, Nat.reduceEqDiff, Nat.reduceLeDiff, Nat.reduceSub, Nat.reduceMul, Nat.reduceLT, Scd, encT, eq_false hc2, eq_false hc4, hc11]
        refine SemF.seq rfl ?_
        refine SemF.seq rfl ?_
        refine SemF.dreg true rfl ?_
        try simp only [hgT, ↓w_gt, ↓v_gf, ↓v_gu, ↓reduceIte, reduceCtorEq, Nat.reduceAdd, Nat.reduceEqDiff, Nat.reduceLeDiff, Nat.reduceSub, Nat.reduceMul, Nat.reduceLT, Scd, encT, eq_false hc2, eq_false hc4, hc11]; (repeat refine fun (_ : _ ≤ lim) => ?_)
        obtain ⟨r12, h_r12, h⟩ := bs h
        refine HCp.callE (K.laws_toExp p0 r12 h_r12) (by simp only [hgT, ↓w_gt, ↓v_gf, ↓v_gu, ↓reduceIte, reduceCtorEq, Nat.reduceAdd, Nat.reduceEqDiff, Nat.reduceLeDiff, Nat.reduceSub, Nat.reduceMul, Nat.reduceLT, Scd, encT, eq_false hc2, eq_false hc4, hc11]) (by simp only [scT, Scd, esT, and_self, true_and, and_true]) (by simp only [scT, Scd, esT, and_self, true_and, and_true]) ?_
        try simp only [hgT, ↓w_gt, ↓v_gf, ↓v_gu, ↓reduceIte, reduceCtorEq, Nat.reduceAdd, Nat.reduceEqDiff, Nat.reduceLeDiff, Nat.reduceSub, Nat.reduceMul, Nat.reduceLT, Scd, encT, eq_false hc2, eq_false hc4, hc11]; (repeat refine fun (_ : _ ≤ lim) => ?_)
        obtain ⟨r13, h_r13, h⟩ := bs h
        refine HCp.callE (K.laws_eqExp (r8, r12) r13 h_r13) (by simp only [hgT, ↓w_gt, ↓v_gf, ↓v_gu, ↓reduceIte, reduceCtorEq, Nat.reduceAdd, Nat.reduceEqDiff, Nat.reduceLeDiff, Nat.reduceSub, Nat.reduceMul, Nat.reduceLT, Scd, encT, eq_false hc2, eq_false hc4, hc11]) (by simp only [scT, Scd, esT, and_self, true_and, and_true]) (by simp only [scT, Scd, esT, and_self, true_and, and_true]) ?_
        try simp only [hgT, ↓w_gt, ↓v_gf, ↓v_gu, ↓reduceIte, reduceCtorEq, Nat.reduceAdd, Nat.reduceEqDiff, Nat.reduceLeDiff, Nat.reduceSub, Nat.reduceMul, Nat.reduceLT, Scd, encT, eq_false hc2, eq_false hc4, hc11]; (repeat refine fun (_ : _ ≤ lim) => ?_)
        by_cases hc14 : r13 = true
        · rw [if_pos hc14] at h
          refine SemF.cond rfl ?_
          simp only [hgT, ↓w_gt, ↓v_gf, ↓v_gu, ↓reduceIte, reduceCtorEq, Nat.reduceAdd, Nat.reduceEqDiff, Nat.reduceLeDiff, Nat.reduceSub, Nat.reduceMul, Nat.reduceLT, Scd, encT, eq_false hc2, eq_false hc4, hc11, hc14]
          refine SemF.skip rfl ?_
          simp only [hgT, ↓w_gt, ↓v_gf, ↓v_gu, ↓reduceIte, reduceCtorEq, Nat.reduceAdd, Nat.reduceEqDiff, Nat.reduceLeDiff, Nat.reduceSub, Nat.reduceMul, Nat.reduceLT, Scd, encT, eq_false hc2, eq_false hc4, hc11, hc14]
          refine SemF.seq rfl ?_
          refine SemF.seq rfl ?_
          refine SemF.dreg true rfl ?_
          try simp only [hgT, ↓w_gt, ↓v_gf, ↓v_gu, ↓reduceIte, reduceCtorEq, Nat.reduceAdd, Nat.reduceEqDiff, Nat.reduceLeDiff, Nat.reduceSub, Nat.reduceMul, Nat.reduceLT, Scd, encT, eq_false hc2, eq_false hc4, hc11, hc14]; (repeat refine fun (_ : _ ≤ lim) => ?_)
          obtain ⟨r15, h_r15, h⟩ := bs h
          refine HCp.callE (K.laws_toExp p1 r15 h_r15) (by simp only [hgT, ↓w_gt, ↓v_gf, ↓v_gu, ↓reduceIte, reduceCtorEq, Nat.reduceAdd, Nat.reduceEqDiff, Nat.reduceLeDiff, Nat.reduceSub, Nat.reduceMul, Nat.reduceLT, Scd, encT, eq_false hc2, eq_false hc4, hc11, hc14]) (by simp only [scT, Scd, esT, and_self, true_and, and_true]) (by simp only [scT, Scd, esT, and_self, true_and, and_true]) ?_
          try simp only [hgT, ↓w_gt, ↓v_gf, ↓v_gu, ↓reduceIte, reduceCtorEq, Nat.reduceAdd, Nat.reduceEqDiff, Nat.reduceLeDiff, Nat.reduceSub, Nat.reduceMul, Nat.reduceLT, Scd, encT, eq_false hc2, eq_false hc4, hc11, hc14]; (repeat refine fun (_ : _ ≤ lim) => ?_)
          obtain ⟨r16, h_r16, h⟩ := bs h
          refine HCp.callE (K.laws_eqExp (r9, r15) r16 h_r16) (by simp only [hgT, ↓w_gt, ↓v_gf, ↓v_gu, ↓reduceIte, reduceCtorEq, Nat.reduceAdd, Nat.reduceEqDiff, Nat.reduceLeDiff, Nat.reduceSub, Nat.reduceMul, Nat.reduceLT, Scd, encT, eq_false hc2, eq_false hc4, hc11, hc14]) (by simp only [scT, Scd, esT, and_self, true_and, and_true]) (by simp only [scT, Scd, esT, and_self, true_and, and_true]) ?_
          try simp only [hgT, ↓w_gt, ↓v_gf, ↓v_gu, ↓reduceIte, reduceCtorEq, Nat.reduceAdd, Nat.reduceEqDiff, Nat.reduceLeDiff, Nat.reduceSub, Nat.reduceMul, Nat.reduceLT, Scd, encT, eq_false hc2, eq_false hc4, hc11, hc14]; (repeat refine fun (_ : _ ≤ lim) => ?_)
          by_cases hc17 : r16 = true
          · rw [if_pos hc17] at h
            refine SemF.cond rfl ?_
            simp only [hgT, ↓w_gt, ↓v_gf, ↓v_gu, ↓reduceIte, reduceCtorEq, Nat.reduceAdd, Nat.reduceEqDiff, Nat.reduceLeDiff, Nat.reduceSub, Nat.reduceMul, Nat.reduceLT, Scd, encT, eq_false hc2, eq_false hc4, hc11, hc14, hc17]
            refine SemF.skip rfl ?_
            simp only [hgT, ↓w_gt, ↓v_gf, ↓v_gu, ↓reduceIte, reduceCtorEq, Nat.reduceAdd, Nat.reduceEqDiff, Nat.reduceLeDiff, Nat.reduceSub, Nat.reduceMul, Nat.reduceLT, Scd, encT, eq_false hc2, eq_false hc4, hc11, hc14, hc17]
            refine SemF.seq rfl ?_
            refine SemF.reg true rfl ?_
            try simp only [hgT, ↓w_gt, ↓v_gf, ↓v_gu, ↓reduceIte, reduceCtorEq, Nat.reduceAdd, Nat.reduceEqDiff, Nat.reduceLeDiff, Nat.reduceSub, Nat.reduceMul, Nat.reduceLT, Scd, encT, eq_false hc2, eq_false hc4, hc11, hc14, hc17]; (repeat refine fun (_ : _ ≤ lim) => ?_)
            refine SemF.ret rfl ?_
            try simp only [hgT, ↓w_gt, ↓v_gf, ↓v_gu, ↓reduceIte, reduceCtorEq, Nat.reduceAdd, Nat.reduceEqDiff, Nat.reduceLeDiff, Nat.reduceSub, Nat.reduceMul, Nat.reduceLT, Scd, encT, eq_false hc2, eq_false hc4, hc11, hc14, hc17]; (repeat refine fun (_ : _ ≤ lim) => ?_)
            obtain rfl := Option.some.inj h
            simp only [hgT, ↓w_gt, ↓v_gf, ↓v_gu, ↓reduceIte, reduceCtorEq, Nat.reduceAdd, Nat.reduceEqDiff, Nat.reduceLeDiff, Nat.reduceSub, Nat.reduceMul, Nat.reduceLT, Scd, encT, RetP_def, eq_false hc2, eq_false hc4, hc11, hc14, hc17]
          · rw [if_neg hc17] at h
            replace hc17 := eq_false_of_ne_true hc17
            refine SemF.cond rfl ?_
            simp only [hgT, ↓w_gt, ↓v_gf, ↓v_gu, ↓reduceIte, reduceCtorEq, Nat.reduceAdd, Nat.reduceEqDiff, Nat.reduceLeDiff, Nat.reduceSub, Nat.reduceMul, Nat.reduceLT, Scd, encT, eq_false hc2, eq_false hc4, hc11, hc14, hc17]
            refine SemF.seq rfl ?_
            refine SemF.reg true rfl ?_
            try simp only [hgT, ↓w_gt, ↓v_gf, ↓v_gu, ↓reduceIte, reduceCtorEq, Nat.reduceAdd, Nat.reduceEqDiff, Nat.reduceLeDiff, Nat.reduceSub, Nat.reduceMul, Nat.reduceLT, Scd, encT, eq_false hc2, eq_false hc4, hc11, hc14, hc17]; (repeat refine fun (_ : _ ≤ lim) => ?_)
            refine SemF.ret rfl ?_
            try simp only [hgT, ↓w_gt, ↓v_gf, ↓v_gu, ↓reduceIte, reduceCtorEq, Nat.reduceAdd, Nat.reduceEqDiff, Nat.reduceLeDiff, Nat.reduceSub, Nat.reduceMul, Nat.reduceLT, Scd, encT, eq_false hc2, eq_false hc4, hc11, hc14, hc17]; (repeat refine fun (_ : _ ≤ lim) => ?_)
            obtain rfl := Option.some.inj h
            simp only [hgT, ↓w_gt, ↓v_gf, ↓v_gu, ↓reduceIte, reduceCtorEq, Nat.reduceAdd, Nat.reduceEqDiff, Nat.reduceLeDiff, Nat.reduceSub, Nat.reduceMul, Nat.reduceLT, Scd, encT, RetP_def, eq_false hc2, eq_false hc4, hc11, hc14, hc17]
        · rw [if_neg hc14] at h
          replace hc14 := eq_false_of_ne_true hc14
          refine SemF.cond rfl ?_
          simp only [hgT, ↓w_gt, ↓v_gf, ↓v_gu, ↓reduceIte, reduceCtorEq, Nat.reduceAdd, Nat.reduceEqDiff, Nat.reduceLeDiff, Nat.reduceSub, Nat.reduceMul, Nat.reduceLT, Scd, encT, eq_false hc2, eq_false hc4, hc11, hc14]
          refine SemF.seq rfl ?_
          refine SemF.reg true rfl ?_
          try simp only [hgT, ↓w_gt, ↓v_gf, ↓v_gu, ↓reduceIte, reduceCtorEq, Nat.reduceAdd, Nat.reduceEqDiff, Nat.reduceLeDiff, Nat.reduceSub, Nat.reduceMul, Nat.reduceLT, Scd, encT, eq_false hc2, eq_false hc4, hc11, hc14]; (repeat refine fun (_ : _ ≤ lim) => ?_)
          refine SemF.ret rfl ?_
          try simp only [hgT, ↓w_gt, ↓v_gf, ↓v_gu, ↓reduceIte, reduceCtorEq, Nat.reduceAdd, Nat.reduceEqDiff, Nat.reduceLeDiff, Nat.reduceSub, Nat.reduceMul, Nat.reduceLT, Scd, encT, eq_false hc2, eq_false hc4, hc11, hc14]; (repeat refine fun (_ : _ ≤ lim) => ?_)
          obtain rfl := Option.some.inj h
          simp only [hgT, ↓w_gt, ↓v_gf, ↓v_gu, ↓reduceIte, reduceCtorEq, Nat.reduceAdd, Nat.reduceEqDiff, Nat.reduceLeDiff, Nat.reduceSub, Nat.reduceMul, Nat.reduceLT, Scd, encT, RetP_def, eq_false hc2, eq_false hc4, hc11, hc14]
      · rw [if_neg hc11] at h
        replace hc11 := eq_false_of_ne_true hc11
        refine SemF.cond rfl ?_
        simp only [hgT, ↓w_gt, ↓v_gf, ↓v_gu, ↓reduceIte, reduceCtorEq, Nat.reduceAdd, Nat.reduceEqDiff, Nat.reduceLeDiff, Nat.reduceSub, Nat.reduceMul, Nat.reduceLT, Scd, encT, eq_false hc2, eq_false hc4, hc11]
        refine SemF.seq rfl ?_
        refine SemF.reg true rfl ?_
        try simp only [hgT, ↓w_gt, ↓v_gf, ↓v_gu, ↓reduceIte, reduceCtorEq, Nat.reduceAdd, Nat.reduceEqDiff, Nat.reduceLeDiff, Nat.reduceSub, Nat.reduceMul, Nat.reduceLT, Scd, encT, eq_false hc2, eq_false hc4, hc11]; (repeat refine fun (_ : _ ≤ lim) => ?_)
        refine SemF.ret rfl ?_
        try simp only [hgT, ↓w_gt, ↓v_gf, ↓v_gu, ↓reduceIte, reduceCtorEq, Nat.reduceAdd, Nat.reduceEqDiff, Nat.reduceLeDiff, Nat.reduceSub, Nat.reduceMul, Nat.reduceLT, Scd, encT, eq_false hc2, eq_false hc4, hc11]; (repeat refine fun (_ : _ ≤ lim) => ?_)
        obtain rfl := Option.some.inj h
        simp only [hgT, ↓w_gt, ↓v_gf, ↓v_gu, ↓reduceIte, reduceCtorEq, Nat.reduceAdd, Nat.reduceEqDiff, Nat.reduceLeDiff, Nat.reduceSub, Nat.reduceMul, Nat.reduceLT, Scd, encT, RetP_def, eq_false hc2, eq_false hc4, hc11]
end K
end W
