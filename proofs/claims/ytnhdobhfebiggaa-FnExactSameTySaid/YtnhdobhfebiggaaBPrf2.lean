import Derived.Test.YtnhdobhfebiggaaBPrf1
namespace W
set_option linter.unusedSimpArgs false
open Go HL S
set_option linter.unusedVariables false
set_option maxRecDepth 100000
set_option maxHeartbeats 4000000
namespace K
theorem spec_SameTy_step (f_spec_SameTy_L0 : (Ty × Ty × Int) → Option (Sum Bool Unit)) (ih_spec_SameTy_L0 : ∀ (x : (Ty × Ty × Int)) (out : (Sum Bool Unit)), f_spec_SameTy_L0 x = some out → ∀ Q : HExit → Env → St → Prop, (∀ v, out = .inr v → ∀ env st sel, Weak 0 sel [] [] env st → Q (.exit 0) env st) → (∀ r, out = .inl r → ∀ env st, RetP [(4, none)] (HV.bool r) env st → Q .ret env st) → SemL P H.spec_SameTy.ntmps 0 H.spec_SameTy_l5 [(2, (.ptr 0 1 0 0)), (3, (.ptr 1 1 0 0)), (5, (.int .i64 x.2.2))] [(.box (Ty.enc x.1)), (.box (Ty.enc x.2.1))] Q) (x : (Ty × Ty)) (r : Bool) (h : (if x.1.K = x.2.K then (if x.1.S = x.2.S then (if x.1.N = x.2.N then (if ((x.1.L.length : Nat) : Int) = ((x.2.L.length : Nat) : Int) then (f_spec_SameTy_L0 (x.1, x.2, 0) >>= fun s15 =>
    (match s15 with
    | .inl r16 => some r16
    | .inr v17 => some true)) else
    some false) else
    some false) else
    some false) else
    some false) = some r) : HCp P F.spec_SameTy [(Ty.enc x.1), (Ty.enc x.2)] (HV.bool r) := by
  obtain ⟨p0, p1⟩ := x
  try dsimp only at h
  refine HCp.mkF S.spec_SameTy (by simp [H.spec_SameTy]) (by simp only [scT, Scd, esT, and_self, true_and, and_true]) ?_
  simp only [hgT, ↓w_gt, ↓v_gf, ↓v_gu, ↓reduceIte, reduceCtorEq, Nat.reduceAdd, Nat.reduceEqDiff, Nat.reduceLeDiff, Nat.reduceSub, Nat.reduceMul, Nat.reduceLT, Scd, encT, H.spec_SameTy]
  refine SemF.seq rfl ?_
  refine SemF.reg true rfl ?_
  try simp only [hgT, ↓w_gt, ↓v_gf, ↓v_gu, ↓reduceIte, reduceCtorEq, Nat.reduceAdd, Nat.reduceEqDiff, Nat.reduceLeDiff, Nat.reduceSub, Nat.reduceMul, Nat.reduceLT, Scd, encT]; (repeat refine fun (_ : _ ≤ lim) => ?_)
  refine SemF.seq rfl ?_
  refine SemF.seq rfl ?_
  refine SemF.reg true rfl ?_
  try simp only [hgT, ↓w_gt, ↓v_gf, ↓v_gu, ↓reduceIte, reduceCtorEq, Nat.reduceAdd, Nat.reduceEqDiff, Nat.reduceLeDiff, Nat.reduceSub, Nat.reduceMul, Nat.reduceLT, Scd, encT]; (repeat refine fun (_ : _ ≤ lim) => ?_)
  by_cases hc1 : p0.K = p1.K
  · rw [if_pos hc1] at h
    try simp only [hgT, ↓w_gt, ↓v_gf, ↓v_gu, ↓reduceIte, reduceCtorEq, Nat.reduceAdd, Nat.reduceEqDiff, Nat.reduceLeDiff, Nat.reduceSub, Nat.reduceMul, Nat.reduceLT, Scd, encT, eq_true hc1]; (repeat refine fun (_ : _ ≤ lim) => ?_)
    by_cases hc2 : p0.S = p1.S
    · rw [if_pos hc2] at h
      try simp only [hgT, ↓w_gt, ↓v_gf, ↓v_gu, ↓reduceIte, reduceCtorEq, Nat.reduceAdd, Nat.reduceEqDiff, Nat.reduceLeDiff, Nat.reduceSub, Nat.reduceMul, Nat.reduceLT, Scd, encT, eq_true hc1, eq_true hc2]; (repeat refine fun (_ : _ ≤ lim) => ?_)
      by_cases hc3 : p0.N = p1.N
      · rw [if_pos hc3] at h
        try simp only [hgT, ↓w_gt, ↓v_gf, ↓v_gu, ↓reduceIte, reduceCtorEq, Nat.reduceAdd, Nat.reduceEqDiff, Nat.reduceLeDiff, Nat.reduceSub, Nat.reduceMul, Nat.reduceLT, Scd, encT, eq_true hc1, eq_true hc2, eq_true hc3]; (repeat refine fun (_ : _ ≤ lim) => ?_)
        (repeat refine fun (_ : _ ≤ lim) => ?_)
        (repeat refine fun (_ : _ ≤ lim) => ?_)
        by_cases hc4 : ((p0.L.length : Nat) : Int) = ((p1.L.length : Nat) : Int)
        · rw [if_pos hc4] at h
          refine SemF.cond rfl ?_
          simp only [hgT, ↓w_gt, ↓v_gf, ↓v_gu, ↓reduceIte, reduceCtorEq, Nat.reduceAdd, Nat.reduceEqDiff, Nat.reduceLeDiff, Nat.reduceSub, Nat.reduceMul, Nat.reduceLT, Scd, encT, eq_true hc1, eq_true hc2, eq_true hc3, eq_true hc4]
          refine SemF.skip rfl ?_
          simp only [hgT, ↓w_gt, ↓v_gf, ↓v_gu, ↓reduceIte, reduceCtorEq, Nat.reduceAdd, Nat.reduceEqDiff, Nat.reduceLeDiff, Nat.reduceSub, Nat.reduceMul, Nat.reduceLT, Scd, encT, eq_true hc1, eq_true hc2, eq_true hc3, eq_true hc4]
          refine SemF.seq rfl ?_
          refine SemF.seq rfl ?_
          refine SemF.reg true rfl ?_
          try simp only [hgT, ↓w_gt, ↓v_gf, ↓v_gu, ↓reduceIte, reduceCtorEq, Nat.reduceAdd, Nat.reduceEqDiff, Nat.reduceLeDiff, Nat.reduceSub, Nat.reduceMul, Nat.reduceLT, Scd, encT, eq_true hc1, eq_true hc2, eq_true hc3, eq_true hc4]; (repeat refine fun (_ : _ ≤ lim) => ?_)
          refine SemF.block rfl ?_
          obtain ⟨s15, h_s15, h⟩ := bs h
          rcases s15 with r16 | v17
          · dsimp only at h
            refine SemF.loop rfl ?_
            refine SemL.weak (sel := [0, 1]) ⟨by simp only [hgT, ↓w_gt, ↓v_gf, ↓v_gu, ↓reduceIte, reduceCtorEq, Nat.reduceAdd, Nat.reduceEqDiff, Nat.reduceLeDiff, Nat.reduceSub, Nat.reduceMul, Nat.reduceLT, Scd, encT, hwT, selS, erT, eq_true hc1, eq_true hc2, eq_true hc3, eq_true hc4], by decide, by decide, by simp only [hgT, ↓w_gt, ↓v_gf, ↓v_gu, ↓reduceIte, reduceCtorEq, Nat.reduceAdd, Nat.reduceEqDiff, Nat.reduceLeDiff, Nat.reduceSub, Nat.reduceMul, Nat.reduceLT, Scd, encT, hwT, selS, erT, subR, eq_true hc1, eq_true hc2, eq_true hc3, eq_true hc4], by simp only [hgT, ↓w_gt, ↓v_gf, ↓v_gu, ↓reduceIte, reduceCtorEq, Nat.reduceAdd, Nat.reduceEqDiff, Nat.reduceLeDiff, Nat.reduceSub, Nat.reduceMul, Nat.reduceLT, Scd, encT, hwT, selS, erT, scT, Scd, esT, eq_true hc1, eq_true hc2, eq_true hc3, eq_true hc4], by simp only [hgT, ↓w_gt, ↓v_gf, ↓v_gu, ↓reduceIte, reduceCtorEq, Nat.reduceAdd, Nat.reduceEqDiff, Nat.reduceLeDiff, Nat.reduceSub, Nat.reduceMul, Nat.reduceLT, Scd, encT, hwT, selS, erT, scT, Scd, esT, eq_true hc1, eq_true hc2, eq_true hc3, eq_true hc4]⟩ (ih_spec_SameTy_L0 (p0, p1, 0) (.inl r16) h_s15 _ ?_ ?_)
            · intro v hv; cases hv
            · intro r' hr' env st hy
              cases hr'
              simp only [hgT, ↓w_gt, ↓v_gf, ↓v_gu, ↓reduceIte, reduceCtorEq, Nat.reduceAdd, Nat.reduceEqDiff, Nat.reduceLeDiff, Nat.reduceSub, Nat.reduceMul, Nat.reduceLT, Scd, encT]
              obtain rfl := Option.some.inj h
              exact hy
          · dsimp only at h
            refine SemF.loop rfl ?_
            refine SemL.weak (sel := [0, 1]) ⟨by simp only [hgT, ↓w_gt, ↓v_gf, ↓v_gu, ↓reduceIte, reduceCtorEq, Nat.reduceAdd, Nat.reduceEqDiff, Nat.reduceLeDiff, Nat.reduceSub, Nat.reduceMul, Nat.reduceLT, Scd, encT, hwT, selS, erT, eq_true hc1, eq_true hc2, eq_true hc3, eq_true hc4], by decide, by decide, by simp only [hgT, ↓w_gt, ↓v_gf, ↓v_gu, ↓reduceIte, reduceCtorEq, Nat.reduceAdd, Nat.reduceEqDiff, Nat.reduceLeDiff, Nat.reduceSub, Nat.reduceMul, Nat.reduceLT, Scd, encT, hwT, selS, erT, subR, eq_true hc1, eq_true hc2, eq_true hc3, eq_true hc4], by simp only [hgT, ↓w_gt, ↓v_gf, ↓v_gu, ↓reduceIte, reduceCtorEq, Nat.reduceAdd, Nat.reduceEqDiff, Nat.reduceLeDiff, Nat.reduceSub, Nat.reduceMul, Nat.reduceLT, Scd, encT, hwT, selS, erT, scT, Scd, esT, eq_true hc1, eq_true hc2, eq_true hc3, eq_true hc4], by simp only [hgT, ↓w_gt, ↓v_gf, ↓v_gu, ↓reduceIte, reduceCtorEq, Nat.reduceAdd, Nat.reduceEqDiff, Nat.reduceLeDiff, Nat.reduceSub, Nat.reduceMul, Nat.reduceLT, Scd, encT, hwT, selS, erT, scT, Scd, esT, eq_true hc1, eq_true hc2, eq_true hc3, eq_true hc4]⟩ (ih_spec_SameTy_L0 (p0, p1, 0) (.inr v17) h_s15 _ ?_ ?_)
            rotate_left
            · intro r' hr'; cases hr'
            intro v hv env st sel hw
            cases hv
            simp only [hgT, ↓w_gt, ↓v_gf, ↓v_gu, ↓reduceIte, reduceCtorEq, Nat.reduceAdd, Nat.reduceEqDiff, Nat.reduceLeDiff, Nat.reduceSub, Nat.reduceMul, Nat.reduceLT, Scd, encT]
            first | refine SemF.weak hw ?_ | refine SemL.weak hw ?_
            refine SemF.seq rfl ?_
            refine SemF.reg true rfl ?_
            try simp only [hgT, ↓w_gt, ↓v_gf, ↓v_gu, ↓reduceIte, reduceCtorEq, Nat.reduceAdd, Nat.reduceEqDiff, Nat.reduceLeDiff, Nat.reduceSub, Nat.reduceMul, Nat.reduceLT, Scd, encT, eq_true hc1, eq_true hc2, eq_true hc3, eq_true hc4]; (repeat refine fun (_ : _ ≤ lim) => ?_)
            refine SemF.ret rfl ?_
            try simp only [hgT, ↓w_gt, ↓v_gf, ↓v_gu, ↓reduceIte, reduceCtorEq, Nat.reduceAdd, Nat.reduceEqDiff, Nat.reduceLeDiff, Nat.reduceSub, Nat.reduceMul, Nat.reduceLT, Scd, encT, eq_true hc1, eq_true hc2, eq_true hc3, eq_true hc4]; (repeat refine fun (_ : _ ≤ lim) => ?_)
            obtain rfl := Option.some.inj h
            simp only [hgT, ↓w_gt, ↓v_gf, ↓v_gu, ↓reduceIte, reduceCtorEq, Nat.reduceAdd, Nat.reduceEqDiff, Nat.reduceLeDiff, Nat.reduceSub, Nat.reduceMul, Nat.reduceLT, Scd, encT, RetP_def, eq_true hc1, eq_true hc2, eq_true hc3, eq_true hc4]
        · rw [if_neg hc4] at h
          refine SemF.cond rfl ?_
          simp only [hgT, ↓w_gt, ↓v_gf, ↓v_gu, ↓reduceIte, reduceCtorEq, Nat.reduceAdd, Nat.reduceEqDiff, Nat.reduceLeDiff, Nat.reduceSub, Nat.reduceMul, Nat.reduceLT, Scd, encT, eq_true hc1, eq_true hc2, eq_true hc3, eq_false hc4]
          refine SemF.seq rfl ?_
          refine SemF.reg true rfl ?_
          try simp only [hgT, ↓w_gt, ↓v_gf, ↓v_gu, ↓reduceIte, reduceCtorEq, Nat.reduceAdd, Nat.reduceEqDiff, Nat.reduceLeDiff, Nat.reduceSub, Nat.reduceMul, Nat.reduceLT, Scd, encT, eq_true hc1, eq_true hc2, eq_true hc3, eq_false hc4]; (repeat refine fun (_ : _ ≤ lim) => ?_)
          refine SemF.ret rfl ?_
          try simp only [hgT, ↓w_gt, ↓v_gf, ↓v_gu, ↓reduceIte, reduceCtorEq, Nat.reduceAdd, Nat.reduceEqDiff, Nat.reduceLeDiff, Nat.reduceSub, Nat.reduceMul, Nat.reduceLT, Scd, encT, eq_true hc1, eq_true hc2, eq_true hc3, eq_false hc4]; (repeat refine fun (_ : _ ≤ lim) => ?_)
          obtain rfl := Option.some.inj h
          simp only [hgT, ↓w_gt, ↓v_gf, ↓v_gu, ↓reduceIte, reduceCtorEq, Nat.reduceAdd, Nat.reduceEqDiff, Nat.reduceLeDiff, Nat.reduceSub, Nat.reduceMul, Nat.reduceLT, Scd, encT, RetP_def, eq_true hc1, eq_true hc2, eq_true hc3, eq_false hc4]
      · rw [if_neg hc3] at h
        try simp only [hgT, ↓w_gt, ↓v_gf, ↓v_gu, ↓reduceIte, reduceCtorEq, Nat.reduceAdd, Nat.reduceEqDiff, Nat.reduceLeDiff, Nat.reduceSub, Nat.reduceMul, Nat.reduceLT, Scd, encT, eq_true hc1, eq_true hc2, eq_false hc3]; (repeat refine fun (_ : _ ≤ lim) => ?_)
        refine SemF.cond rfl ?_
        simp only [hgT, ↓w_gt, ↓v_gf, ↓v_gu, ↓reduceIte, reduceCtorEq, Nat.reduceAdd, Nat.reduceEqDiff, Nat.reduceLeDiff, Nat.reduceSub, Nat.reduceMul, Nat.reduceLT, Scd, encT, eq_true hc1, eq_true hc2, eq_false hc3]
        refine SemF.seq rfl ?_
        refine SemF.reg true rfl ?_
        try simp only [hgT, ↓w_gt, ↓v_gf, ↓v_gu, ↓reduceIte, reduceCtorEq, Nat.reduceAdd, Nat.reduceEqDiff, Nat.reduceLeDiff, Nat.reduceSub, Nat.reduceMul, Nat.reduceLT, Scd, encT, eq_true hc1, eq_true hc2, eq_false hc3]; (repeat refine fun (_ : _ ≤ lim) => ?_)
        refine SemF.ret rfl ?_
        try simp only [hgT, ↓w_gt, ↓v_gf, ↓v_gu, ↓reduceIte, reduceCtorEq, Nat.reduceAdd, Nat.reduceEqDiff, Nat.reduceLeDiff, Nat.reduceSub, Nat.reduceMul, Nat.reduceLT, Scd, encT, eq_true hc1, eq_true hc2, eq_false hc3]; (repeat refine fun (_ : _ ≤ lim) => ?_)
        obtain rfl := Option.some.inj h
        simp only [hgT, ↓w_gt, ↓v_gf, ↓v_gu, ↓reduceIte, reduceCtorEq, Nat.reduceAdd, Nat.reduceEqDiff, Nat.reduceLeDiff, Nat.reduceSub, Nat.reduceMul, Nat.reduceLT, Scd, encT, RetP_def, eq_true hc1, eq_true hc2, eq_false hc3]
    · rw [if_neg hc2] at h
      try simp only [hgT, ↓w_gt, ↓v_gf, ↓v_gu, ↓reduceIte, reduceCtorEq, Nat.reduceAdd, Nat.reduceEqDiff, Nat.reduceLeDiff, Nat.reduceSub, Nat.reduceMul, Nat.reduceLT, Scd, encT, eq_true hc1, eq_false hc2]; (repeat refine fun (_ : _ ≤ lim) => ?_)
      refine SemF.cond rfl ?_
      simp only [hgT, ↓w_gt, ↓v_gf, ↓v_gu, ↓reduceIte, reduceCtorEq, Nat.reduceAdd, Nat.reduceEqDiff, Nat.reduceLeDiff, Nat.reduceSub, Nat.reduceMul, Nat.reduceLT, Scd, encT, eq_true hc1, eq_false hc2]
      refine SemF.seq rfl ?_
      refine SemF.reg true rfl ?_
      try simp only [hgT, ↓w_gt, ↓v_gf, ↓v_gu, ↓reduceIte, reduceCtorEq, Nat.reduceAdd, Nat.reduceEqDiff, Nat.reduceLeDiff, Nat.reduceSub, Nat.reduceMul, Nat.reduceLT, Scd, encT, eq_true hc1, eq_false hc2]; (repeat refine fun (_ : _ ≤ lim) => ?_)
      refine SemF.ret rfl ?_
      try simp only [hgT, ↓w_gt, ↓v_gf, ↓v_gu, ↓reduceIte, reduceCtorEq, Nat.reduceAdd, Nat.reduceEqDiff, Nat.reduceLeDiff, Nat.reduceSub, Nat.reduceMul, Nat.reduceLT, Scd, encT, eq_true hc1, eq_false hc2]; (repeat refine fun (_ : _ ≤ lim) => ?_)
      obtain rfl := Option.some.inj h
      simp only [hgT, ↓w_gt, ↓v_gf, ↓v_gu, ↓reduceIte, reduceCtorEq, Nat.reduceAdd, Nat.reduceEqDiff, Nat.reduceLeDiff, Nat.reduceSub, Nat.reduceMul, Nat.reduceLT, Scd, encT, RetP_def, eq_true hc1, eq_false hc2]
  · rw [if_neg hc1] at h
    try simp only [hgT, ↓w_gt, ↓v_gf, ↓v_gu, ↓reduceIte, reduceCtorEq, Nat.reduceAdd, Nat.reduceEqDiff, Nat.reduceLeDiff, Nat.reduceSub, Nat.reduceMul, Nat.reduceLT, Scd, encT, eq_false hc1]; (repeat refine fun (_ : _ ≤ lim) => ?_)
    refine SemF.cond rfl ?_
    simp only [hgT, ↓w_gt, ↓v_gf, ↓v_gu, ↓reduceIte, reduceCtorEq, Nat.reduceAdd, Nat.reduceEqDiff, Nat.reduceLeDiff, Nat.reduceSub, Nat.reduceMul, Nat.reduceLT, Scd, encT, eq_false hc1]
    refine SemF.seq rfl ?_
    refine SemF.reg true rfl ?_
    try simp only [hgT, ↓w_gt, ↓v_gf, ↓v_gu, ↓reduceIte, reduceCtorEq, Nat.reduceAdd, Nat.reduceEqDiff, Nat.reduceLeDiff, Nat.reduceSub, Nat.reduceMul, Nat.reduceLT, Scd, encT, eq_false hc1]; (repeat refine fun (_ : _ ≤ lim) => ?_)
    refine SemF.ret rfl ?_
    try simp only [hgT, ↓w_gt, ↓v_gf, ↓v_gu, ↓reduceIte, reduceCtorEq, Nat.reduceAdd, Nat.reduceEqDiff, Nat.reduceLeDiff, Nat.reduceSub, Nat.reduceMul, Nat.reduceLT, Scd, encT, eq_false hc1]; (repeat refine fun (_ : _ ≤ lim) => ?_)
    obtain rfl := Option.some.inj h
    simp only [hgT, ↓w_gt, ↓v_gf, ↓v_gu, ↓reduceIte, reduceCtorEq, Nat.reduceAdd, Nat.reduceEqDiff, Nat.reduceLeDiff, Nat.reduceSub, Nat.reduceMul, Nat.reduceLT, Scd, encT, RetP_def, eq_false hc1]
theorem spec_SameTy_L0_step (f_spec_SameTy : (Ty × Ty) → Option Bool) (f_spec_SameTy_L0 : (Ty × Ty × Int) → Option (Sum Bool Unit)) (ih_spec_SameTy : ∀ (x : (Ty × Ty)) (r : Bool), f_spec_SameTy x = some r → HCp P F.spec_SameTy [(Ty.enc x.1), (Ty.enc x.2)] (HV.bool r)) (ih_spec_SameTy_L0 : ∀ (x : (Ty × Ty × Int)) (out : (Sum Bool Unit)), f_spec_SameTy_L0 x = some out → ∀ Q : HExit → Env → St → Prop, (∀ v, out = .inr v → ∀ env st sel, Weak 0 sel [] [] env st → Q (.exit 0) env st) → (∀ r, out = .inl r → ∀ env st, RetP [(4, none)] (HV.bool r) env st → Q .ret env st) → SemL P H.spec_SameTy.ntmps 0 H.spec_SameTy_l5 [(2, (.ptr 0 1 0 0)), (3, (.ptr 1 1 0 0)), (5, (.int .i64 x.2.2))] [(.box (Ty.enc x.1)), (.box (Ty.enc x.2.1))] Q) (x : (Ty × Ty × Int)) (out : (Sum Bool Unit)) (h : (if x.2.2 < ((x.1.L.length : Nat) : Int) then (ix x.1.L x.2.2 >>= fun e11 =>
    (ix x.2.1.L x.2.2 >>= fun e12 =>
    (f_spec_SameTy (e11, e12) >>= fun r13 =>
    (if r13 = true then f_spec_SameTy_L0 (x.1, x.2.1, (IntKind.i64.wrap (x.2.2 + 1))) else
    some (.inl false))))) else
    some (.inr ())) = some out) : ∀ Q : HExit → Env → St → Prop, (∀ v, out = .inr v → ∀ env st sel, Weak 0 sel [] [] env st → Q (.exit 0) env st) → (∀ r, out = .inl r → ∀ env st, RetP [(4, none)] (HV.bool r) env st → Q .ret env st) → SemL P H.spec_SameTy.ntmps 0 H.spec_SameTy_l5 [(2, (.ptr 0 1 0 0)), (3, (.ptr 1 1 0 0)), (5, (.int .i64 x.2.2))] [(.box (Ty.enc x.1)), (.box (Ty.enc x.2.1))] Q := by
  obtain ⟨p0, p1, t5_L0⟩ := x
  try dsimp only at h
  intro Q hx hr
  refine SemL.round ?_
  try dsimp only at hx
  refine SemF.seq rfl ?_
  refine SemF.seq rfl ?_
  refine SemF.reg true rfl ?_
  try simp only [hgT, ↓w_gt, ↓v_gf, ↓v_gu, ↓reduceIte, reduceCtorEq, Nat.reduceAdd, Nat.reduceEqDiff, Nat.reduceLeDiff, Nat.reduceSub, Nat.reduceMul, Nat.reduceLT, Scd, encT]; (repeat refine fun (_ : _ ≤ lim) => ?_)
  (repeat refine fun (_ : _ ≤ lim) => ?_)
  by_cases hc10 : t5_L0 < ((p0.L.length : Nat) : Int)
  · rw [if_pos hc10] at h
    refine SemF.cond rfl ?_
    simp only [hgT, ↓w_gt, ↓v_gf, ↓v_gu, ↓reduceIte, reduceCtorEq, Nat.reduceAdd, Nat.reduceEqDiff, Nat.reduceLeDiff, Nat.reduceSub, Nat.reduceMul, Nat.reduceLT, Scd, encT, eq_true hc10]
    refine SemF.skip rfl ?_
    simp only [hgT, ↓w_gt, ↓v_gf, ↓v_gu, ↓reduceIte, reduceCtorEq, Nat.reduceAdd, Nat.reduceEqDiff, Nat.reduceLeDiff, Nat.reduceSub, Nat.reduceMul, Nat.reduceLT, Scd, encT, eq_true hc10]
    refine SemF.seq rfl ?_
    refine SemF.block rfl ?_
    refine SemF.seq rfl ?_
    refine SemF.dreg true rfl ?_
    try simp only [hgT, ↓w_gt, ↓v_gf, ↓v_gu, ↓reduceIte, reduceCtorEq, Nat.reduceAdd, Nat.reduceEqDiff, Nat.reduceLeDiff, Nat.reduceSub, Nat.reduceMul, Nat.reduceLT, Scd, encT, eq_true hc10]; (repeat refine fun (_ : _ ≤ lim) => ?_)
    obtain ⟨e11, h_e11, h⟩ := bs h
    have m_e11 := ixm (f := Ty.enc) (ix_get h_e11)
    try simp only [hgT, ↓w_gt, ↓v_gf, ↓v_gu, ↓reduceIte, reduceCtorEq, Nat.reduceAdd, Nat.reduceEqDiff, Nat.reduceLeDiff, Nat.reduceSub, Nat.reduceMul, Nat.reduceLT, Scd, encT, eq_true hc10, eq_true (ix_nn h_e11), m_e11]; (repeat refine fun (_ : _ ≤ lim) => ?_)
    obtain ⟨e12, h_e12, h⟩ := bs h
    have m_e12 := ixm (f := Ty.enc) (ix_get h_e12)
    try simp only [hgT, ↓w_gt, ↓v_gf, ↓v_gu, ↓reduceIte, reduceCtorEq, Nat.reduceAdd, Nat.reduceEqDiff, Nat.reduceLeDiff, Nat.reduceSub, Nat.reduceMul, Nat.reduceLT, Scd, encT, eq_true hc10, eq_true (ix_nn h_e11), m_e11, eq_true (ix_nn h_e12), m_e12]; (repeat refine fun (_ : _ ≤ lim) => ?_)
    obtain ⟨r13, h_r13, h⟩ := bs h
    refine HCp.callE (ih_spec_SameTy (e11, e12) r13 h_r13) (by simp only [hgT, ↓w_gt, ↓v_gf, ↓v_gu, ↓reduceIte, reduceCtorEq, Nat.reduceAdd, Nat.reduceEqDiff, Nat.reduceLeDiff, Nat.reduceSub, Nat.reduceMul, Nat.reduceLT, Scd, encT, eq_true hc10, eq_true (ix_nn h_e11), m_e11, eq_true (ix_nn h_e12), m_e12]) (by simp only [scT, Scd, esT, and_self, true_and, and_true]) (by simp only [scT, Scd, esT, and_self, true_and, and_true]) ?_
    try simp only [hgT, ↓w_gt, ↓v_gf, ↓v_gu, ↓reduceIte, reduceCtorEq, Nat.reduceAdd, Nat.reduceEqDiff, Nat.reduceLeDiff, Nat.reduceSub, Nat.reduceMul, Nat.reduceLT, Scd, encT, eq_true hc10, eq_true (ix_nn h_e11), m_e11, eq_true (ix_nn h_e12), m_e12]; (repeat refine fun (_ : _ ≤ lim) => ?_)
    by_cases hc14 : r13 = true
    · rw [if_pos hc14] at h
      refine SemF.cond rfl ?_
      simp only [hgT, ↓w_gt, ↓v_gf, ↓v_gu, ↓reduceIte, reduceCtorEq, Nat.reduceAdd, Nat.reduceEqDiff, Nat.reduceLeDiff, Nat.reduceSub, Nat.reduceMul, Nat.reduceLT, Scd, encT, eq_true hc10, eq_true (ix_nn h_e11), m_e11, eq_true (ix_nn h_e12), m_e12, hc14]
      refine SemF.skip rfl ?_
      simp only [hgT, ↓w_gt, ↓v_gf, ↓v_gu, ↓reduceIte, reduceCtorEq, Nat.reduceAdd, Nat.reduceEqDiff, Nat.reduceLeDiff, Nat.reduceSub, Nat.reduceMul, Nat.reduceLT, Scd, encT, eq_true hc10, eq_true (ix_nn h_e11), m_e11, eq_true (ix_nn h_e12), m_e12, hc14]
      refine SemF.reg true rfl ?_
      try simp only [hgT, ↓w_gt, ↓v_gf, ↓v_gu, ↓reduceIte, reduceCtorEq, Nat.reduceAdd, Nat.reduceEqDiff, Nat.reduceLeDiff, Nat.reduceSub, Nat.reduceMul, Nat.reduceLT, Scd, encT, eq_true hc10, eq_true (ix_nn h_e11), m_e11, eq_true (ix_nn h_e12), m_e12, hc14]; (repeat refine fun (_ : _ ≤ lim) => ?_)
      refine SemL.weak (sel := [0, 1]) ⟨by simp only [hgT, ↓w_gt, ↓v_gf, ↓v_gu, ↓reduceIte, reduceCtorEq, Nat.reduceAdd, Nat.reduceEqDiff, Nat.reduceLeDiff, Nat.reduceSub, Nat.reduceMul, Nat.reduceLT, Scd, encT, hwT, selS, erT, eq_true hc10, eq_true (ix_nn h_e11), m_e11, eq_true (ix_nn h_e12), m_e12, hc14], by decide, by decide, by simp only [hgT, ↓w_gt, ↓v_gf, ↓v_gu, ↓reduceIte, reduceCtorEq, Nat.reduceAdd, Nat.reduceEqDiff, Nat.reduceLeDiff, Nat.reduceSub, Nat.reduceMul, Nat.reduceLT, Scd, encT, hwT, selS, erT, subR, eq_true hc10, eq_true (ix_nn h_e11), m_e11, eq_true (ix_nn h_e12), m_e12, hc14], by simp only [hgT, ↓w_gt, ↓v_gf, ↓v_gu, ↓reduceIte, reduceCtorEq, Nat.reduceAdd, Nat.reduceEqDiff, Nat.reduceLeDiff, Nat.reduceSub, Nat.reduceMul, Nat.reduceLT, Scd, encT, hwT, selS, erT, scT, Scd, esT, eq_true hc10, eq_true (ix_nn h_e11), m_e11, eq_true (ix_nn h_e12), m_e12, hc14], by simp only [hgT, ↓w_gt, ↓v_gf, ↓v_gu, ↓reduceIte, reduceCtorEq, Nat.reduceAdd, Nat.reduceEqDiff, Nat.reduceLeDiff, Nat.reduceSub, Nat.reduceMul, Nat.reduceLT, Scd, encT, hwT, selS, erT, scT, Scd, esT, eq_true hc10, eq_true (ix_nn h_e11), m_e11, eq_true (ix_nn h_e12), m_e12, hc14]⟩ (ih_spec_SameTy_L0 (p0, p1, (IntKind.i64.wrap (t5_L0 + 1))) out h Q hx hr)
    · rw [if_neg hc14] at h
      replace hc14 := eq_false_of_ne_true hc14
      refine SemF.cond rfl ?_
      simp only [hgT, ↓w_gt, ↓v_gf, ↓v_gu, ↓reduceIte, reduceCtorEq, Nat.reduceAdd, Nat.reduceEqDiff, Nat.reduceLeDiff, Nat.reduceSub, Nat.reduceMul, Nat.reduceLT, Scd, encT, eq_true hc10, eq_true (ix_nn h_e11), m_e11, eq_true (ix_nn h_e12), m_e12, hc14]
      refine SemF.seq rfl ?_
      refine SemF.reg true rfl ?_
      try simp only [hgT, ↓w_gt, ↓v_gf, ↓v_gu, ↓reduceIte, reduceCtorEq, Nat.reduceAdd, Nat.reduceEqDiff, Nat.reduceLeDiff, Nat.reduceSub, Nat.reduceMul, Nat.reduceLT, Scd, encT, eq_true hc10, eq_true (ix_nn h_e11), m_e11, eq_true (ix_nn h_e12), m_e12, hc14]; (repeat refine fun (_ : _ ≤ lim) => ?_)
      refine SemF.ret rfl ?_
      try simp only [hgT, ↓w_gt, ↓v_gf, ↓v_gu, ↓reduceIte, reduceCtorEq, Nat.reduceAdd, Nat.reduceEqDiff, Nat.reduceLeDiff, Nat.reduceSub, Nat.reduceMul, Nat.reduceLT, Scd, encT, eq_true hc10, eq_true (ix_nn h_e11), m_e11, eq_true (ix_nn h_e12), m_e12, hc14]; (repeat refine fun (_ : _ ≤ lim) => ?_)
      obtain rfl := Option.some.inj h
      refine hr _ rfl _ _ ?_
      simp only [hgT, ↓w_gt, ↓v_gf, ↓v_gu, ↓reduceIte, reduceCtorEq, Nat.reduceAdd, Nat.reduceEqDiff, Nat.reduceLeDiff, Nat.reduceSub, Nat.reduceMul, Nat.reduceLT, Scd, encT, RetP_def, eq_true hc10, eq_true (ix_nn h_e11), m_e11, eq_true (ix_nn h_e12), m_e12, hc14]
  · rw [if_neg hc10] at h
    refine SemF.cond rfl ?_
    simp only [hgT, ↓w_gt, ↓v_gf, ↓v_gu, ↓reduceIte, reduceCtorEq, Nat.reduceAdd, Nat.reduceEqDiff, Nat.reduceLeDiff, Nat.reduceSub, Nat.reduceMul, Nat.reduceLT, Scd, encT, eq_false hc10]
    refine SemF.exit rfl ?_
    simp only [hgT, ↓w_gt, ↓v_gf, ↓v_gu, ↓reduceIte, reduceCtorEq, Nat.reduceAdd, Nat.reduceEqDiff, Nat.reduceLeDiff, Nat.reduceSub, Nat.reduceMul, Nat.reduceLT, Scd, encT, eq_false hc10]
    obtain rfl := Option.some.inj h
    refine hx _ rfl _ _ [] ⟨by simp only [hgT, ↓w_gt, ↓v_gf, ↓v_gu, ↓reduceIte, reduceCtorEq, Nat.reduceAdd, Nat.reduceEqDiff, Nat.reduceLeDiff, Nat.reduceSub, Nat.reduceMul, Nat.reduceLT, Scd, encT, hwT, selS, erT, eq_false hc10], by decide, by decide, by simp only [hgT, ↓w_gt, ↓v_gf, ↓v_gu, ↓reduceIte, reduceCtorEq, Nat.reduceAdd, Nat.reduceEqDiff, Nat.reduceLeDiff, Nat.reduceSub, Nat.reduceMul, Nat.reduceLT, Scd, encT, hwT, selS, erT, subR, eq_false hc10], by simp only [hgT, ↓w_gt, ↓v_gf, ↓v_gu, ↓reduceIte, reduceCtorEq, Nat.reduceAdd, Nat.reduceEqDiff, Nat.reduceLeDiff, Nat.reduceSub, Nat.reduceMul, Nat.reduceLT, Scd, encT, hwT, selS, erT, scT, Scd, esT, eq_false hc10], by simp only [hgT, ↓w_gt, ↓v_gf, ↓v_gu, ↓reduceIte, reduceCtorEq, Nat.reduceAdd, Nat.reduceEqDiff, Nat.reduceLeDiff, Nat.reduceSub, Nat.reduceMul, Nat.reduceLT, Scd, encT, hwT, selS, erT, scT, Scd, esT, eq_false hc10]⟩
theorem spec_SameTy_all : (∀ (x : (Ty × Ty)) (r : Bool), M.spec_SameTy x = some r → HCp P F.spec_SameTy [(Ty.enc x.1), (Ty.enc x.2)] (HV.bool r)) ∧
  (∀ (x : (Ty × Ty × Int)) (out : (Sum Bool Unit)), M.spec_SameTy_L0 x = some out → ∀ Q : HExit → Env → St → Prop, (∀ v, out = .inr v → ∀ env st sel, Weak 0 sel [] [] env st → Q (.exit 0) env st) → (∀ r, out = .inl r → ∀ env st, RetP [(4, none)] (HV.bool r) env st → Q .ret env st) → SemL P H.spec_SameTy.ntmps 0 H.spec_SameTy_l5 [(2, (.ptr 0 1 0 0)), (3, (.ptr 1 1 0 0)), (5, (.int .i64 x.2.2))] [(.box (Ty.enc x.1)), (.box (Ty.enc x.2.1))] Q) := by
  refine M.spec_SameTy.mutual_partial_correctness (motive_1 := fun x r => HCp P F.spec_SameTy [(Ty.enc x.1), (Ty.enc x.2)] (HV.bool r)) (motive_2 := fun x out => ∀ Q : HExit → Env → St → Prop, (∀ v, out = .inr v → ∀ env st sel, Weak 0 sel [] [] env st → Q (.exit 0) env st) → (∀ r, out = .inl r → ∀ env st, RetP [(4, none)] (HV.bool r) env st → Q .ret env st) → SemL P H.spec_SameTy.ntmps 0 H.spec_SameTy_l5 [(2, (.ptr 0 1 0 0)), (3, (.ptr 1 1 0 0)), (5, (.int .i64 x.2.2))] [(.box (Ty.enc x.1)), (.box (Ty.enc x.2.1))] Q) ?_ ?_
  · exact fun f_spec_SameTy_L0 ih_spec_SameTy_L0 x r h => K.spec_SameTy_step f_spec_SameTy_L0 ih_spec_SameTy_L0 x r h
  · exact fun f_spec_SameTy f_spec_SameTy_L0 ih_spec_SameTy ih_spec_SameTy_L0 x out h => K.spec_SameTy_L0_step f_spec_SameTy f_spec_SameTy_L0 ih_spec_SameTy ih_spec_SameTy_L0 x out h
theorem spec_SameTy : (∀ (x : (Ty × Ty)) (r : Bool), M.spec_SameTy x = some r → HCp P F.spec_SameTy [(Ty.enc x.1), (Ty.enc x.2)] (HV.bool r)) := K.spec_SameTy_all.1
theorem spec_SameTy_L0 : (∀ (x : (Ty × Ty × Int)) (out : (Sum Bool Unit)), M.spec_SameTy_L0 x = some out → ∀ Q : HExit → Env → St → Prop, (∀ v, out = .inr v → ∀ env st sel, Weak 0 sel [] [] env st → Q (.exit 0) env st) → (∀ r, out = .inl r → ∀ env st, RetP [(4, none)] (HV.bool r) env st → Q .ret env st) → SemL P H.spec_SameTy.ntmps 0 H.spec_SameTy_l5 [(2, (.ptr 0 1 0 0)), (3, (.ptr 1 1 0 0)), (5, (.int .i64 x.2.2))] [(.box (Ty.enc x.1)), (.box (Ty.enc x.2.1))] Q) := K.spec_SameTy_all.2
theorem laws_toTy_step (f_laws_toTyS : (List Ty) → Option (List Ty)) (ih_laws_toTyS : ∀ (x : (List Ty)) (r : (List Ty)), f_laws_toTyS x = some r → HCp P F.laws_toTyS [(.sl (List.map Ty.enc x))] (HV.sl (List.map Ty.enc r))) (x : Ty) (r : Ty) (h : (f_laws_toTyS x.L >>= fun r1 =>
    some (Ty.mk x.K x.S x.N r1)) = some r) : HCp P F.laws_toTy [(Ty.enc x)] (Ty.enc r) := by
  revert h; revert x; intro p0 h
  try dsimp only at h
  refine HCp.mkF S.laws_toTy (by simp [H.laws_toTy]) (by simp only [scT, Scd, esT, and_self, true_and, and_true]) ?_
  simp only [hgT, ↓w_gt, ↓v_gf, ↓v_gu, ↓reduceIte, reduceCtorEq, Nat.reduceAdd, Nat.reduceEqDiff, Nat.reduceLeDiff, Nat.reduceSub, Nat.reduceMul, Nat.reduceLT, Scd, encT, H.laws_toTy]
  refine SemF.seq rfl ?_
  refine SemF.reg true rfl ?_
  try simp only [hgT, ↓w_gt, ↓v_gf, ↓v_gu, ↓reduceIte, reduceCtorEq, Nat.reduceAdd, Nat.reduceEqDiff, Nat.reduceLeDiff, Nat.reduceSub, Nat.reduceMul, Nat.reduceLT, Scd, encT]; (repeat refine fun (_ : _ ≤ lim) => ?_)
  refine SemF.seq rfl ?_
  refine SemF.reg true rfl ?_
  try simp only [hgT, ↓w_gt, ↓v_gf, ↓v_gu, ↓reduceIte, reduceCtorEq, Nat.reduceAdd, Nat.reduceEqDiff, Nat.reduceLeDiff, Nat.reduceSub, Nat.reduceMul, Nat.reduceLT, Scd, encT]; (repeat refine fun (_ : _ ≤ lim) => ?_)
  refine SemF.seq rfl ?_
  refine SemF.reg true rfl ?_
  try simp only [hgT, ↓w_gt, ↓v_gf, ↓v_gu, ↓reduceIte, reduceCtorEq, Nat.reduceAdd, Nat.reduceEqDiff, Nat.reduceLeDiff, Nat.reduceSub, Nat.reduceMul, Nat.reduceLT, Scd, encT]; (repeat refine fun (_ : _ ≤ lim) => ?_)
  refine SemF.seq rfl ?_
  refine SemF.reg true rfl ?_
  try simp only [hgT, ↓w_gt, ↓v_gf, ↓v_gu, ↓reduceIte, reduceCtorEq, Nat.reduceAdd, Nat.reduceEqDiff, Nat.reduceLeDiff, Nat.reduceSub, Nat.reduceMul, Nat.reduceLT, Scd, encT]; (repeat refine fun (_ : _ ≤ lim) => ?_)
  refine SemF.seq rfl ?_
  refine SemF.reg true rfl ?_
  try simp only [hgT, ↓w_gt, ↓v_gf, ↓v_gu, ↓reduceIte, reduceCtorEq, Nat.reduceAdd, Nat.reduceEqDiff, Nat.reduceLeDiff, Nat.reduceSub, Nat.reduceMul, Nat.reduceLT, Scd, encT]; (repeat refine fun (_ : _ ≤ lim) => ?_)
  refine SemF.seq rfl ?_
  refine SemF.reg true rfl ?_
  try simp only [hgT, ↓w_gt, ↓v_gf, ↓v_gu, ↓reduceIte, reduceCtorEq, Nat.reduceAdd, Nat.reduceEqDiff, Nat.reduceLeDiff, Nat.reduceSub, Nat.reduceMul, Nat.reduceLT, Scd, encT]; (repeat refine fun (_ : _ ≤ lim) => ?_)
  obtain ⟨r1, h_r1, h⟩ := bs h
  refine HCp.callE (ih_laws_toTyS p0.L r1 h_r1) (by simp only [hgT, ↓w_gt, ↓v_gf, ↓v_gu, ↓reduceIte, reduceCtorEq, Nat.reduceAdd, Nat.reduceEqDiff, Nat.reduceLeDiff, Nat.reduceSub, Nat.reduceMul, Nat.reduceLT, Scd, encT]) (by simp only [scT, Scd, esT, and_self, true_and, and_true]) (by simp only [scT, Scd, esT, and_self, true_and, and_true]) ?_
  try simp only [hgT, ↓w_gt, ↓v_gf, ↓v_gu, ↓reduceIte, reduceCtorEq, Nat.reduceAdd, Nat.reduceEqDiff, Nat.reduceLeDiff, Nat.reduceSub, Nat.reduceMul, Nat.reduceLT, Scd, encT]; (repeat refine fun (_ : _ ≤ lim) => ?_)
  refine SemF.seq rfl ?_
  refine SemF.reg true rfl ?_
  try simp only [hgT, ↓w_gt, ↓v_gf, ↓v_gu, ↓reduceIte, reduceCtorEq, Nat.reduceAdd, Nat.reduceEqDiff, Nat.reduceLeDiff, Nat.reduceSub, Nat.reduceMul, Nat.reduceLT, Scd, encT]; (repeat refine fun (_ : _ ≤ lim) => ?_)
  refine SemF.ret rfl ?_
  try simp only [hgT, ↓w_gt, ↓v_gf, ↓v_gu, ↓reduceIte, reduceCtorEq, Nat.reduceAdd, Nat.reduceEqDiff, Nat.reduceLeDiff, Nat.reduceSub, Nat.reduceMul, Nat.reduceLT, Scd, encT]; (repeat refine fun (_ : _ ≤ lim) => ?_)
  obtain rfl := Option.some.inj h
  simp only [hgT, ↓w_gt, ↓v_gf, ↓v_gu, ↓reduceIte, reduceCtorEq, Nat.reduceAdd, Nat.reduceEqDiff, Nat.reduceLeDiff, Nat.reduceSub, Nat.reduceMul, Nat.reduceLT, Scd, encT, RetP_def]
theorem laws_toTyS_step (f_laws_toTyS_L0 : ((List Ty) × Int × (List Ty)) → Option (List Ty)) (ih_laws_toTyS_L0 : ∀ (x : ((List Ty) × Int × (List Ty))) (out : (List Ty)), f_laws_toTyS_L0 x = some out → ∀ Q : HExit → Env → St → Prop, (∀ env st sel, Weak 0 sel [(3, (.own 0 out.length))] [(.arr 4 (List.map Ty.enc out) true)] env st → Q (.exit 0) env st) → SemL P H.laws_toTyS.ntmps 0 H.laws_toTyS_l5 [(0, (.sl (List.map Ty.enc x.1))), (3, (.own 0 x.2.2.length)), (4, (.int .i64 x.2.1))] [(.arr 4 (List.map Ty.enc x.2.2) true)] Q) (x : (List Ty)) (r : (List Ty)) (h : (gd ((0 : Int) ≤ ((x.length : Nat) : Int)) >>= fun u2 =>
    (gd (((x.length : Nat) : Int) ≤ (1099511627776 : Int)) >>= fun u4 =>
    (f_laws_toTyS_L0 (x, 0, (List.replicate x.length (Ty.mk 0 (⟨⟨[]⟩⟩ : ByteArray) 0 []))) >>= fun s27 =>
    some s27))) = some r) : HCp P F.laws_toTyS [(.sl (List.map Ty.enc x))] (HV.sl (List.map Ty.enc r)) := by
  revert h; revert x; intro p0 h
  try dsimp only at h
  refine HCp.mkF S.laws_toTyS (by simp [H.laws_toTyS]) (by simp only [scT, Scd, esT, and_self, true_and, and_true]) ?_
  simp only [hgT, ↓w_gt, ↓v_gf, ↓v_gu, ↓reduceIte, reduceCtorEq, Nat.reduceAdd, Nat.reduceEqDiff, Nat.reduceLeDiff, Nat.reduceSub, Nat.reduceMul, Nat.reduceLT, Scd, encT, H.laws_toTyS]
  refine SemF.seq rfl ?_
  refine SemF.reg true rfl ?_
  try simp only [hgT, ↓w_gt, ↓v_gf, ↓v_gu, ↓reduceIte, reduceCtorEq, Nat.reduceAdd, Nat.reduceEqDiff, Nat.reduceLeDiff, Nat.reduceSub, Nat.reduceMul, Nat.reduceLT, Scd, encT]; (repeat refine fun (_ : _ ≤ lim) => ?_)
  refine SemF.seq rfl ?_
  refine SemF.reg true rfl ?_
  try simp only [hgT, ↓w_gt, ↓v_gf, ↓v_gu, ↓reduceIte, reduceCtorEq, Nat.reduceAdd, Nat.reduceEqDiff, Nat.reduceLeDiff, Nat.reduceSub, Nat.reduceMul, Nat.reduceLT, Scd, encT]; (repeat refine fun (_ : _ ≤ lim) => ?_)
  (repeat refine fun (_ : _ ≤ lim) => ?_)
  obtain ⟨u2, h_u2, h⟩ := bs h
  have hg1 := gd_some h_u2
  try simp only [hgT, ↓w_gt, ↓v_gf, ↓v_gu, ↓reduceIte, reduceCtorEq, Nat.reduceAdd, Nat.reduceEqDiff, Nat.reduceLeDiff, Nat.reduceSub, Nat.reduceMul, Nat.reduceLT, Scd, encT, eq_true hg1]; (repeat refine fun (_ : _ ≤ lim) => ?_)
  obtain ⟨u4, h_u4, h⟩ := bs h
  have hg3 := gd_some h_u4
  try simp only [hgT, ↓w_gt, ↓v_gf, ↓v_gu, ↓reduceIte, reduceCtorEq, Nat.reduceAdd, Nat.reduceEqDiff, Nat.reduceLeDiff, Nat.reduceSub, Nat.reduceMul, Nat.reduceLT, Scd, encT, eq_true hg1, eq_true hg3]; (repeat refine fun (_ : _ ≤ lim) => ?_)
  refine SemF.seq rfl ?_
  refine SemF.seq rfl ?_
  refine SemF.reg true rfl ?_
  try simp only [hgT, ↓w_gt, ↓v_gf, ↓v_gu, ↓reduceIte, reduceCtorEq, Nat.reduceAdd, Nat.reduceEqDiff, Nat.reduceLeDiff, Nat.reduceSub, Nat.reduceMul, Nat.reduceLT, Scd, encT, eq_true hg1, eq_true hg3]; (repeat refine fun (_ : _ ≤ lim) => ?_)
  refine SemF.block rfl ?_
  obtain ⟨s27, h_s27, h⟩ := bs h
  refine SemF.loop rfl ?_
  refine SemL.weak (sel := [0]) ⟨by simp only [hgT, ↓w_gt, ↓v_gf, ↓v_gu, ↓reduceIte, reduceCtorEq, Nat.reduceAdd, Nat.reduceEqDiff, Nat.reduceLeDiff, Nat.reduceSub, Nat.reduceMul, Nat.reduceLT, Scd, encT, hwT, selS, erT, eq_true hg1, eq_true hg3], by decide, by decide, by simp only [hgT, ↓w_gt, ↓v_gf, ↓v_gu, ↓reduceIte, reduceCtorEq, Nat.reduceAdd, Nat.reduceEqDiff, Nat.reduceLeDiff, Nat.reduceSub, Nat.reduceMul, Nat.reduceLT, Scd, encT, hwT, selS, erT, subR, eq_true hg1, eq_true hg3], by simp only [hgT, ↓w_gt, ↓v_gf, ↓v_gu, ↓reduceIte, reduceCtorEq, Nat.reduceAdd, Nat.reduceEqDiff, Nat.reduceLeDiff, Nat.reduceSub, Nat.reduceMul, Nat.reduceLT, Scd, encT, hwT, selS, erT, scT, Scd, esT, eq_true hg1, eq_true hg3], by simp only [hgT, ↓w_gt, ↓v_gf, ↓v_gu, ↓reduceIte, reduceCtorEq, Nat.reduceAdd, Nat.reduceEqDiff, Nat.reduceLeDiff, Nat.reduceSub, Nat.reduceMul, Nat.reduceLT, Scd, encT, hwT, selS, erT, scT, Scd, esT, eq_true hg1, eq_true hg3]⟩ (ih_laws_toTyS_L0 (p0, 0, (List.replicate p0.length (Ty.mk 0 (⟨⟨[]⟩⟩ : ByteArray) 0 []))) s27 h_s27 _ ?_)
  intro env st sel hw
  simp only [hgT, ↓w_gt, ↓v_gf, ↓v_gu, ↓reduceIte, reduceCtorEq, Nat.reduceAdd, Nat.reduceEqDiff, Nat.reduceLeDiff, Nat.reduceSub, Nat.reduceMul, Nat.reduceLT, Scd, encT]
  first | refine SemF.weak hw ?_ | refine SemL.weak hw ?_
  refine SemF.seq rfl ?_
  refine SemF.reg true rfl ?_
  try simp only [hgT, ↓w_gt, ↓v_gf, ↓v_gu, ↓reduceIte, reduceCtorEq, Nat.reduceAdd, Nat.reduceEqDiff, Nat.reduceLeDiff, Nat.reduceSub, Nat.reduceMul, Nat.reduceLT, Scd, encT, eq_true hg1, eq_true hg3]; (repeat refine fun (_ : _ ≤ lim) => ?_)
  refine SemF.ret rfl ?_
  try simp only [hgT, ↓w_gt, ↓v_gf, ↓v_gu, ↓reduceIte, reduceCtorEq, Nat.reduceAdd, Nat.reduceEqDiff, Nat.reduceLeDiff, Nat.reduceSub, Nat.reduceMul, Nat.reduceLT, Scd, encT, eq_true hg1, eq_true hg3]; (repeat refine fun (_ : _ ≤ lim) => ?_)
  obtain rfl := Option.some.inj h
  simp only [hgT, ↓w_gt, ↓v_gf, ↓v_gu, ↓reduceIte, reduceCtorEq, Nat.reduceAdd, Nat.reduceEqDiff, Nat.reduceLeDiff, Nat.reduceSub, Nat.reduceMul, Nat.reduceLT, Scd, encT, RetP_def, eq_true hg1, eq_true hg3]
theorem laws_toTyS_L0_step (f_laws_toTy : Ty → Option Ty) (f_laws_toTyS_L0 : ((List Ty) × Int × (List Ty)) → Option (List Ty)) (ih_laws_toTy : ∀ (x : Ty) (r : Ty), f_laws_toTy x = some r → HCp P F.laws_toTy [(Ty.enc x)] (Ty.enc r)) (ih_laws_toTyS_L0 : ∀ (x : ((List Ty) × Int × (List Ty))) (out : (List Ty)), f_laws_toTyS_L0 x = some out → ∀ Q : HExit → Env → St → Prop, (∀ env st sel, Weak 0 sel [(3, (.own 0 out.length))] [(.arr 4 (List.map Ty.enc out) true)] env st → Q (.exit 0) env st) → SemL P H.laws_toTyS.ntmps 0 H.laws_toTyS_l5 [(0, (.sl (List.map Ty.enc x.1))), (3, (.own 0 x.2.2.length)), (4, (.int .i64 x.2.1))] [(.arr 4 (List.map Ty.enc x.2.2) true)] Q) (x : ((List Ty) × Int × (List Ty))) (out : (List Ty)) (h : (if x.2.1 < ((x.1.length : Nat) : Int) then (ix x.1 x.2.1 >>= fun e20 =>
    (f_laws_toTy e20 >>= fun r21 =>
    (gd ((0 : Int) ≤ x.2.1) >>= fun u23 =>
    (gd (x.2.1 < ((x.2.2.length : Nat) : Int)) >>= fun u25 =>
    f_laws_toTyS_L0 (x.1, (IntKind.i64.wrap (x.2.1 + 1)), (x.2.2.set x.2.1.toNat r21)))))) else
    some x.2.2) = some out) : ∀ Q : HExit → Env → St → Prop, (∀ env st sel, Weak 0 sel [(3, (.own 0 out.length))] [(.arr 4 (List.map Ty.enc out) true)] env st → Q (.exit 0) env st) → SemL P H.laws_toTyS.ntmps 0 H.laws_toTyS_l5 [(0, (.sl (List.map Ty.enc x.1))), (3, (.own 0 x.2.2.length)), (4, (.int .i64 x.2.1))] [(.arr 4 (List.map Ty.enc x.2.2) true)] Q := by
  obtain ⟨p0, t4_L0, a0_L0⟩ := x
  try dsimp only at h
  intro Q hx
  refine SemL.round ?_
  try dsimp only at hx
  refine SemF.seq rfl ?_
  refine SemF.seq rfl ?_
  refine SemF.reg true rfl ?_
  try simp only [hgT, ↓w_gt, ↓v_gf, ↓v_gu, ↓reduceIte, reduceCtorEq, Nat.reduceAdd, Nat.reduceEqDiff, Nat.reduceLeDiff, Nat.reduceSub, Nat.reduceMul, Nat.reduceLT, Scd, encT]; (repeat refine fun (_ : _ ≤ lim) => ?_)
  (repeat refine fun (_ : _ ≤ lim) => ?_)
  by_cases hc19 : t4_L0 < ((p0.length : Nat) : Int)
  · rw [if_pos hc19] at h
    refine SemF.cond rfl ?_
    simp only [hgT, ↓w_gt, ↓v_gf, ↓v_gu, ↓reduceIte, reduceCtorEq, Nat.reduceAdd, Nat.reduceEqDiff, Nat.reduceLeDiff, Nat.reduceSub, Nat.reduceMul, Nat.reduceLT, Scd, encT, eq_true hc19]
    refine SemF.skip rfl ?_
    simp only [hgT, ↓w_gt, ↓v_gf, ↓v_gu, ↓reduceIte, reduceCtorEq, Nat.reduceAdd, Nat.reduceEqDiff, Nat.reduceLeDiff, Nat.reduceSub, Nat.reduceMul, Nat.reduceLT, Scd, encT, eq_true hc19]
    refine SemF.seq rfl ?_
    refine SemF.block rfl ?_
    refine SemF.reg true rfl ?_
    try simp only [hgT, ↓w_gt, ↓v_gf, ↓v_gu, ↓reduceIte, reduceCtorEq, Nat.reduceAdd, Nat.reduceEqDiff, Nat.reduceLeDiff, Nat.reduceSub, Nat.reduceMul, Nat.reduceLT, Scd, encT, eq_true hc19]; (repeat refine fun (_ : _ ≤ lim) => ?_)
    obtain ⟨e20, h_e20, h⟩ := bs h
    have m_e20 := ixm (f := Ty.enc) (ix_get h_e20)
    try simp only [hgT, ↓w_gt, ↓v_gf, ↓v_gu, ↓reduceIte, reduceCtorEq, Nat.reduceAdd, Nat.reduceEqDiff, Nat.reduceLeDiff, Nat.reduceSub, Nat.reduceMul, Nat.reduceLT, Scd, encT, eq_true hc19, eq_true (ix_nn h_e20), m_e20]; (repeat refine fun (_ : _ ≤ lim) => ?_)
    obtain ⟨r21, h_r21, h⟩ := bs h
    refine HCp.callE (ih_laws_toTy e20 r21 h_r21) (by simp only [hgT, ↓w_gt, ↓v_gf, ↓v_gu, ↓reduceIte, reduceCtorEq, Nat.reduceAdd, Nat.reduceEqDiff, Nat.reduceLeDiff, Nat.reduceSub, Nat.reduceMul, Nat.reduceLT, Scd, encT, eq_true hc19, eq_true (ix_nn h_e20), m_e20]) (by simp only [scT, Scd, esT, and_self, true_and, and_true]) (by simp only [scT, Scd, esT, and_self, true_and, and_true]) ?_
    try simp only [hgT, ↓w_gt, ↓v_gf, ↓v_gu, ↓reduceIte, reduceCtorEq, Nat.reduceAdd, Nat.reduceEqDiff, Nat.reduceLeDiff, Nat.reduceSub, Nat.reduceMul, Nat.reduceLT, Scd, encT, eq_true hc19, eq_true (ix_nn h_e20), m_e20]; (repeat refine fun (_ : _ ≤ lim) => ?_)
    obtain ⟨u23, h_u23, h⟩ := bs h
    have hg22 := gd_some h_u23
    try simp only [hgT, ↓w_gt, ↓v_gf, ↓v_gu, ↓reduceIte, reduceCtorEq, Nat.reduceAdd, Nat.reduceEqDiff, Nat.reduceLeDiff, Nat.reduceSub, Nat.reduceMul, Nat.reduceLT, Scd, encT, eq_true hc19, eq_true (ix_nn h_e20), m_e20, eq_true hg22]; (repeat refine fun (_ : _ ≤ lim) => ?_)
    obtain ⟨u25, h_u25, h⟩ := bs h
    have hg24 := gd_some h_u25
    try simp only [hgT, ↓w_gt, ↓v_gf, ↓v_gu, ↓reduceIte, reduceCtorEq, Nat.reduceAdd, Nat.reduceEqDiff, Nat.reduceLeDiff, Nat.reduceSub, Nat.reduceMul, Nat.reduceLT, Scd, encT, eq_true hc19, eq_true (ix_nn h_e20), m_e20, eq_true hg22, eq_true hg24]; (repeat refine fun (_ : _ ≤ lim) => ?_)
    obtain ⟨y26, m_y26⟩ := own_get (f := Ty.enc) (l := a0_L0) (by simp only [List.length_replicate, List.length_set, List.length_append, List.length_cons, List.length_nil, Nat.zero_add, Nat.reduceAdd]) hg22 hg24
    try simp only [hgT, ↓w_gt, ↓v_gf, ↓v_gu, ↓reduceIte, reduceCtorEq, Nat.reduceAdd, Nat.reduceEqDiff, Nat.reduceLeDiff, Nat.reduceSub, Nat.reduceMul, Nat.reduceLT, Scd, encT, eq_true hc19, eq_true (ix_nn h_e20), m_e20, eq_true hg22, eq_true hg24, m_y26]; (repeat refine fun (_ : _ ≤ lim) => ?_)
    refine SemF.reg true rfl ?_
    try simp only [hgT, ↓w_gt, ↓v_gf, ↓v_gu, ↓reduceIte, reduceCtorEq, Nat.reduceAdd, Nat.reduceEqDiff, Nat.reduceLeDiff, Nat.reduceSub, Nat.reduceMul, Nat.reduceLT, Scd, encT, eq_true hc19, eq_true (ix_nn h_e20), m_e20, eq_true hg22, eq_true hg24, m_y26]; (repeat refine fun (_ : _ ≤ lim) => ?_)
    refine SemL.weak (sel := [0]) ⟨by simp only [hgT, ↓w_gt, ↓v_gf, ↓v_gu, ↓reduceIte, reduceCtorEq, Nat.reduceAdd, Nat.reduceEqDiff, Nat.reduceLeDiff, Nat.reduceSub, Nat.reduceMul, Nat.reduceLT, Scd, encT, hwT, selS, erT, eq_true hc19, eq_true (ix_nn h_e20), m_e20, eq_true hg22, eq_true hg24, m_y26], by decide, by decide, by simp only [hgT, ↓w_gt, ↓v_gf, ↓v_gu, ↓reduceIte, reduceCtorEq, Nat.reduceAdd, Nat.reduceEqDiff, Nat.reduceLeDiff, Nat.reduceSub, Nat.reduceMul, Nat.reduceLT, Scd, encT, hwT, selS, erT, subR, eq_true hc19, eq_true (ix_nn h_e20), m_e20, eq_true hg22, eq_true hg24, m_y26], by simp only [hgT, ↓w_gt, ↓v_gf, ↓v_gu, ↓reduceIte, reduceCtorEq, Nat.reduceAdd, Nat.reduceEqDiff, Nat.reduceLeDiff, Nat.reduceSub, Nat.reduceMul, Nat.reduceLT, Scd, encT, hwT, selS, erT, scT, Scd, esT, eq_true hc19, eq_true (ix_nn h_e20), m_e20, eq_true hg22, eq_true hg24, m_y26], by simp only [hgT, ↓w_gt, ↓v_gf, ↓v_gu, ↓reduceIte, reduceCtorEq, Nat.reduceAdd, Nat.reduceEqDiff, Nat.reduceLeDiff, Nat.reduceSub, Nat.reduceMul, Nat.reduceLT, Scd, encT, hwT, selS, erT, scT, Scd, esT, eq_true hc19, eq_true (ix_nn h_e20), m_e20, eq_true hg22, eq_true hg24, m_y26]⟩ (ih_laws_toTyS_L0 (p0, (IntKind.i64.wrap (t4_L0 + 1)), (a0_L0.set t4_L0.toNat r21)) out h Q hx)
  · rw [if_neg hc19] at h
    refine SemF.cond rfl ?_
    simp only [hgT, ↓w_gt, ↓v_gf, ↓v_gu, ↓reduceIte, reduceCtorEq, Nat.reduceAdd, Nat.reduceEqDiff, Nat.reduceLeDiff, Nat.reduceSub, Nat.reduceMul, Nat.reduceLT, Scd, encT, eq_false hc19]
    refine SemF.exit rfl ?_
    simp only [hgT, ↓w_gt, ↓v_gf, ↓v_gu, ↓reduceIte, reduceCtorEq, Nat.reduceAdd, Nat.reduceEqDiff, Nat.reduceLeDiff, Nat.reduceSub, Nat.reduceMul, Nat.reduceLT, Scd, encT, eq_false hc19]
    obtain rfl := Option.some.inj h
    refine hx _ _ [0] ⟨by simp only [hgT, ↓w_gt, ↓v_gf, ↓v_gu, ↓reduceIte, reduceCtorEq, Nat.reduceAdd, Nat.reduceEqDiff, Nat.reduceLeDiff, Nat.reduceSub, Nat.reduceMul, Nat.reduceLT, Scd, encT, hwT, selS, erT, eq_false hc19], by decide, by decide, by simp only [hgT, ↓w_gt, ↓v_gf, ↓v_gu, ↓reduceIte, reduceCtorEq, Nat.reduceAdd, Nat.reduceEqDiff, Nat.reduceLeDiff, Nat.reduceSub, Nat.reduceMul, Nat.reduceLT, Scd, encT, hwT, selS, erT, subR, eq_false hc19], by simp only [hgT, ↓w_gt, ↓v_gf, ↓v_gu, ↓reduceIte, reduceCtorEq, Nat.reduceAdd, Nat.reduceEqDiff, Nat.reduceLeDiff, Nat.reduceSub, Nat.reduceMul, Nat.reduceLT, Scd, encT, hwT, selS, erT, scT, Scd, esT, eq_false hc19], by simp only [hgT, ↓w_gt, ↓v_gf, ↓v_gu, ↓reduceIte, reduceCtorEq, Nat.reduceAdd, Nat.reduceEqDiff, Nat.reduceLeDiff, Nat.reduceSub, Nat.reduceMul, Nat.reduceLT, Scd, encT, hwT, selS, erT, scT, Scd, esT, eq_false hc19]⟩
theorem laws_toTy_all : (∀ (x : Ty) (r : Ty), M.laws_toTy x = some r → HCp P F.laws_toTy [(Ty.enc x)] (Ty.enc r)) ∧
  (∀ (x : (List Ty)) (r : (List Ty)), M.laws_toTyS x = some r → HCp P F.laws_toTyS [(.sl (List.map Ty.enc x))] (HV.sl (List.map Ty.enc r))) ∧
  (∀ (x : ((List Ty) × Int × (List Ty))) (out : (List Ty)), M.laws_toTyS_L0 x = some out → ∀ Q : HExit → Env → St → Prop, (∀ env st sel, Weak 0 sel [(3, (.own 0 out.length))] [(.arr 4 (List.map Ty.enc out) true)] env st → Q (.exit 0) env st) → SemL P H.laws_toTyS.ntmps 0 H.laws_toTyS_l5 [(0, (.sl (List.map Ty.enc x.1))), (3, (.own 0 x.2.2.length)), (4, (.int .i64 x.2.1))] [(.arr 4 (List.map Ty.enc x.2.2) true)] Q) := by
  refine M.laws_toTy.mutual_partial_correctness (motive_1 := fun x r => HCp P F.laws_toTy [(Ty.enc x)] (Ty.enc r)) (motive_2 := fun x r => HCp P F.laws_toTyS [(.sl (List.map Ty.enc x))] (HV.sl (List.map Ty.enc r))) (motive_3 := fun x out => ∀ Q : HExit → Env → St → Prop, (∀ env st sel, Weak 0 sel [(3, (.own 0 out.length))] [(.arr 4 (List.map Ty.enc out) true)] env st → Q (.exit 0) env st) → SemL P H.laws_toTyS.ntmps 0 H.laws_toTyS_l5 [(0, (.sl (List.map Ty.enc x.1))), (3, (.own 0 x.2.2.length)), (4, (.int .i64 x.2.1))] [(.arr 4 (List.map Ty.enc x.2.2) true)] Q) ?_ ?_ ?_
  · exact fun f_laws_toTyS ih_laws_toTyS x r h => K.laws_toTy_step f_laws_toTyS ih_laws_toTyS x r h
  · exact fun f_laws_toTyS_L0 ih_laws_toTyS_L0 x r h => K.laws_toTyS_step f_laws_toTyS_L0 ih_laws_toTyS_L0 x r h
  · exact fun f_laws_toTy f_laws_toTyS_L0 ih_laws_toTy ih_laws_toTyS_L0 x out h => K.laws_toTyS_L0_step f_laws_toTy f_laws_toTyS_L0 ih_laws_toTy ih_laws_toTyS_L0 x out h
theorem laws_toTy : (∀ (x : Ty) (r : Ty), M.laws_toTy x = some r → HCp P F.laws_toTy [(Ty.enc x)] (Ty.enc r)) := K.laws_toTy_all.1
theorem laws_toTyS : (∀ (x : (List Ty)) (r : (List Ty)), M.laws_toTyS x = some r → HCp P F.laws_toTyS [(.sl (List.map Ty.enc x))] (HV.sl (List.map Ty.enc r))) := K.laws_toTy_all.2.1
theorem laws_toTyS_L0 : (∀ (x : ((List Ty) × Int × (List Ty))) (out : (List Ty)), M.laws_toTyS_L0 x = some out → ∀ Q : HExit → Env → St → Prop, (∀ env st sel, Weak 0 sel [(3, (.own 0 out.length))] [(.arr 4 (List.map Ty.enc out) true)] env st → Q (.exit 0) env st) → SemL P H.laws_toTyS.ntmps 0 H.laws_toTyS_l5 [(0, (.sl (List.map Ty.enc x.1))), (3, (.own 0 x.2.2.length)), (4, (.int .i64 x.2.1))] [(.arr 4 (List.map Ty.enc x.2.2) true)] Q) := K.laws_toTy_all.2.2
end K
end W
