import Derived.Test.YtnhdobhfebiggaaFPrf2
namespace W
set_option linter.unusedSimpArgs false
set_option linter.unusedVariables false
open Go HL S
open Nat (reduceAdd reduceEqDiff reduceLeDiff reduceSub reduceMul reduceLT)
set_option linter.unusedVariables false
set_option maxRecDepth 100000
set_option maxHeartbeats 4000000
namespace K
theorem spec_IsBare_step (f_spec_l11Is : (List Dec) → Option Bool) (f_spec_IsBare_L1 : (Exp × Int) → Option (Sum Bool Unit)) (f_spec_IsBare_L0 : (Exp × Int) → Option (Sum Bool Unit)) (ih_spec_l11Is : ∀ (x : (List Dec)) (r : Bool), f_spec_l11Is x = some r → HCp P F.spec_l11Is [(.sl (List.map Dec.enc x))] (HV.bool r)) (ih_spec_IsBare_L1 : ∀ (x : (Exp × Int)) (out : (Sum Bool Unit)), f_spec_IsBare_L1 x = some out → ∀ Q : HExit → Env → St → Prop, (∀ v, out = .inr v → ∀ env st sel, Weak 0 sel [(1, (.ptr 0 1 0 0))] [(.box (Exp.enc x.1))] env st → Q (.exit 2) env st) → (∀ r, out = .inl r → ∀ env st, RetP [(2, none)] (HV.bool r) env st → Q .ret env st) → SemL P H.spec_IsBare.ntmps 0 H.spec_IsBare_l5 [(1, (.ptr 0 1 0 0)), (4, (.int .i64 x.2))] [(.box (Exp.enc x.1))] Q) (ih_spec_IsBare_L0 : ∀ (x : (Exp × Int)) (out : (Sum Bool Unit)), f_spec_IsBare_L0 x = some out → ∀ Q : HExit → Env → St → Prop, (∀ v, out = .inr v → ∀ env st sel, Weak 0 sel [(1, (.ptr 0 1 0 0))] [(.box (Exp.enc x.1))] env st → Q (.exit 0) env st) → (∀ r, out = .inl r → ∀ env st, RetP [(2, none)] (HV.bool r) env st → Q .ret env st) → SemL P H.spec_IsBare.ntmps 0 H.spec_IsBare_l12 [(1, (.ptr 0 1 0 0)), (3, (.int .i64 x.2))] [(.box (Exp.enc x.1))] Q) (x : Exp) (r : Bool) (h : (f_spec_IsBare_L0 (x, 0) >>= fun s9 =>
    (match s9 with
    | .inl r10 => some r10
    | .inr v11 => (f_spec_IsBare_L1 (x, 0) >>= fun s20 =>
    (match s20 with
    | .inl r21 => some r21
    | .inr v22 => (f_spec_l11Is x.Decs >>= fun r23 =>
    some r23))))) = some r) : HCp P F.spec_IsBare [(Exp.enc x)] (HV.bool r) := by
  revert h; revert x; intro p0 h
  try dsimp only at h
  refine HCp.mkF S.spec_IsBare (by simp [H.spec_IsBare]) (by simp only [scT, esT, and_self, true_and, and_true]) ?_
  simp only [gE, ↓gT, ↓reduceIte, reduceCtorEq, reduceAdd, reduceEqDiff, reduceLeDiff, reduceLT, H.spec_IsBare]
  refine SemF.seq rfl ?_
  refine SemF.reg true rfl ?_
  try simp only [gE, ↓gT, ↓reduceIte, reduceCtorEq, reduceAdd, reduceEqDiff, reduceLeDiff, reduceLT]; (repeat intro (_ : _ ≤ lim))
  refine SemF.seq rfl ?_
  refine SemF.seq rfl ?_
  refine SemF.reg true rfl ?_
  try simp only [gE, ↓gT, ↓reduceIte, reduceCtorEq, reduceAdd, reduceEqDiff, reduceLeDiff, reduceLT]; (repeat intro (_ : _ ≤ lim))
  refine SemF.block rfl ?_
  obtain ⟨s9, h_s9, h⟩ := bs h
  rcases s9 with r10 | v11
  · dsimp only at h
    refine SemF.loop rfl ?_
    refine SemL.weak (sel := [0]) ⟨by simp only [gE, ↓gT, ↓reduceIte, reduceCtorEq, reduceAdd, reduceEqDiff, reduceLeDiff, reduceLT, hwT, selS, erT], by decide, by decide, by simp only [gE, ↓gT, ↓reduceIte, reduceCtorEq, reduceAdd, reduceEqDiff, reduceLeDiff, reduceLT, hwT, selS, erT, subR], by simp only [gE, ↓gT, ↓reduceIte, reduceCtorEq, reduceAdd, reduceEqDiff, reduceLeDiff, reduceLT, hwT, selS, erT, scT, esT], by simp only [gE, ↓gT, ↓reduceIte, reduceCtorEq, reduceAdd, reduceEqDiff, reduceLeDiff, reduceLT, hwT, selS, erT, scT, esT]⟩ (ih_spec_IsBare_L0 (p0, 0) (.inl r10) h_s9 _ ?_ ?_)
    · intro v hv; cases hv
    · intro r' hr' env st hy
      cases hr'
      simp only [gE, ↓gT, ↓reduceIte, reduceCtorEq, reduceAdd, reduceEqDiff, reduceLeDiff, reduceLT]
      obtain rfl := Option.some.inj h
      exact hy
  · dsimp only at h
    refine SemF.loop rfl ?_
    refine SemL.weak (sel := [0]) ⟨by simp only [gE, ↓gT, ↓reduceIte, reduceCtorEq, reduceAdd, reduceEqDiff, reduceLeDiff, reduceLT, hwT, selS, erT], by decide, by decide, by simp only [gE, ↓gT, ↓reduceIte, reduceCtorEq, reduceAdd, reduceEqDiff, reduceLeDiff, reduceLT, hwT, selS, erT, subR], by simp only [gE, ↓gT, ↓reduceIte, reduceCtorEq, reduceAdd, reduceEqDiff, reduceLeDiff, reduceLT, hwT, selS, erT, scT, esT], by simp only [gE, ↓gT, ↓reduceIte, reduceCtorEq, reduceAdd, reduceEqDiff, reduceLeDiff, reduceLT, hwT, selS, erT, scT, esT]⟩ (ih_spec_IsBare_L0 (p0, 0) (.inr v11) h_s9 _ ?_ ?_)
    rotate_left
    · intro r' hr'; cases hr'
    intro v hv env st sel hw
    cases hv
    simp only [gE, ↓gT, ↓reduceIte, reduceCtorEq, reduceAdd, reduceEqDiff, reduceLeDiff, reduceLT]
    first | refine SemF.weak hw ?_ | refine SemL.weak hw ?_
    refine SemF.seq rfl ?_
    refine SemF.seq rfl ?_
    refine SemF.reg true rfl ?_
    try simp only [gE, ↓gT, ↓reduceIte, reduceCtorEq, reduceAdd, reduceEqDiff, reduceLeDiff, reduceLT]; (repeat intro (_ : _ ≤ lim))
    refine SemF.block rfl ?_
    obtain ⟨s20, h_s20, h⟩ := bs h
    rcases s20 with r21 | v22
    · dsimp only at h
      refine SemF.loop rfl ?_
      refine SemL.weak (sel := [0]) ⟨by simp only [gE, ↓gT, ↓reduceIte, reduceCtorEq, reduceAdd, reduceEqDiff, reduceLeDiff, reduceLT, hwT, selS, erT], by decide, by decide, by simp only [gE, ↓gT, ↓reduceIte, reduceCtorEq, reduceAdd, reduceEqDiff, reduceLeDiff, reduceLT, hwT, selS, erT, subR], by simp only [gE, ↓gT, ↓reduceIte, reduceCtorEq, reduceAdd, reduceEqDiff, reduceLeDiff, reduceLT, hwT, selS, erT, scT, esT], by simp only [gE, ↓gT, ↓reduceIte, reduceCtorEq, reduceAdd, reduceEqDiff, reduceLeDiff, reduceLT, hwT, selS, erT, scT, esT]⟩ (ih_spec_IsBare_L1 (p0, 0) (.inl r21) h_s20 _ ?_ ?_)
      · intro v hv; cases hv
      · intro r' hr' env st hy
        cases hr'
        simp only [gE, ↓gT, ↓reduceIte, reduceCtorEq, reduceAdd, reduceEqDiff, reduceLeDiff, reduceLT]
        obtain rfl := Option.some.inj h
        exact hy
    · dsimp only at h
      refine SemF.loop rfl ?_
      refine SemL.weak (sel := [0]) ⟨by simp only [gE, ↓gT, ↓reduceIte, reduceCtorEq, reduceAdd, reduceEqDiff, reduceLeDiff, reduceLT, hwT, selS, erT], by decide, by decide, by simp only [gE, ↓gT, ↓reduceIte, reduceCtorEq, reduceAdd, reduceEqDiff, reduceLeDiff, reduceLT, hwT, selS, erT, subR], by simp only [gE, ↓gT, ↓reduceIte, reduceCtorEq, reduceAdd, reduceEqDiff, reduceLeDiff, reduceLT, hwT, selS, erT, scT, esT], by simp only [gE, ↓gT, ↓reduceIte, reduceCtorEq, reduceAdd, reduceEqDiff, reduceLeDiff, reduceLT, hwT, selS, erT, scT, esT]⟩ (ih_spec_IsBare_L1 (p0, 0) (.inr v22) h_s20 _ ?_ ?_)
      rotate_left
      · intro r' hr'; cases hr'
      intro v hv env st sel hw
      cases hv
      simp only [gE, ↓gT, ↓reduceIte, reduceCtorEq, reduceAdd, reduceEqDiff, reduceLeDiff, reduceLT]
      first | refine SemF.weak hw ?_ | refine SemL.weak hw ?_
      refine SemF.seq rfl ?_
      refine SemF.reg true rfl ?_
      try simp only [gE, ↓gT, ↓reduceIte, reduceCtorEq, reduceAdd, reduceEqDiff, reduceLeDiff, reduceLT]; (repeat intro (_ : _ ≤ lim))
      obtain ⟨r23, h_r23, h⟩ := bs h
      refine HCp.callE (ih_spec_l11Is p0.Decs r23 h_r23) (by simp only [gE, ↓gT, ↓reduceIte, reduceCtorEq, reduceAdd, reduceEqDiff, reduceLeDiff, reduceLT]) (by simp only [scT, esT, and_self, true_and, and_true]) (by simp only [scT, esT, and_self, true_and, and_true]) ?_
      try simp only [gE, ↓gT, ↓reduceIte, reduceCtorEq, reduceAdd, reduceEqDiff, reduceLeDiff, reduceLT]; (repeat intro (_ : _ ≤ lim))
      refine SemF.ret rfl ?_
      try simp only [gE, ↓gT, ↓reduceIte, reduceCtorEq, reduceAdd, reduceEqDiff, reduceLeDiff, reduceLT]; (repeat intro (_ : _ ≤ lim))
      obtain rfl := Option.some.inj h
      simp only [gE, ↓gT, ↓reduceIte, reduceCtorEq, reduceAdd, reduceEqDiff, reduceLeDiff, reduceLT, RetP_def]
theorem spec_l11Is_step (f_spec_l11Is_L0 : ((List Dec) × Int) → Option (Sum Bool Unit)) (ih_spec_l11Is_L0 : ∀ (x : ((List Dec) × Int)) (out : (Sum Bool Unit)), f_spec_l11Is_L0 x = some out → ∀ Q : HExit → Env → St → Prop, (∀ v, out = .inr v → ∀ env st sel, Weak 0 sel [] [] env st → Q (.exit 0) env st) → (∀ r, out = .inl r → ∀ env st, RetP [(2, none)] (HV.bool r) env st → Q .ret env st) → SemL P H.spec_l11Is.ntmps 0 H.spec_l11Is_l4 [(0, (.sl (List.map Dec.enc x.1))), (3, (.int .i64 x.2))] [] Q) (x : (List Dec)) (r : Bool) (h : (f_spec_l11Is_L0 (x, 0) >>= fun s13 =>
    (match s13 with
    | .inl r14 => some r14
    | .inr v15 => some true)) = some r) : HCp P F.spec_l11Is [(.sl (List.map Dec.enc x))] (HV.bool r) := by
  revert h; revert x; intro p0 h
  try dsimp only at h
  refine HCp.mkF S.spec_l11Is (by simp [H.spec_l11Is]) (by simp only [scT, esT, and_self, true_and, and_true]) ?_
  simp only [gE, ↓gT, ↓reduceIte, reduceCtorEq, reduceAdd, reduceEqDiff, reduceLeDiff, reduceLT, H.spec_l11Is]
  refine SemF.seq rfl ?_
  refine SemF.reg true rfl ?_
  try simp only [gE, ↓gT, ↓reduceIte, reduceCtorEq, reduceAdd, reduceEqDiff, reduceLeDiff, reduceLT]; (repeat intro (_ : _ ≤ lim))
  refine SemF.seq rfl ?_
  refine SemF.seq rfl ?_
  refine SemF.reg true rfl ?_
  try simp only [gE, ↓gT, ↓reduceIte, reduceCtorEq, reduceAdd, reduceEqDiff, reduceLeDiff, reduceLT]; (repeat intro (_ : _ ≤ lim))
  refine SemF.block rfl ?_
  obtain ⟨s13, h_s13, h⟩ := bs h
  rcases s13 with r14 | v15
  · dsimp only at h
    refine SemF.loop rfl ?_
    refine SemL.weak (sel := []) ⟨by simp only [gE, ↓gT, ↓reduceIte, reduceCtorEq, reduceAdd, reduceEqDiff, reduceLeDiff, reduceLT, hwT, selS, erT], by decide, by decide, by simp only [gE, ↓gT, ↓reduceIte, reduceCtorEq, reduceAdd, reduceEqDiff, reduceLeDiff, reduceLT, hwT, selS, erT, subR], by simp only [gE, ↓gT, ↓reduceIte, reduceCtorEq, reduceAdd, reduceEqDiff, reduceLeDiff, reduceLT, hwT, selS, erT, scT, esT], by simp only [gE, ↓gT, ↓reduceIte, reduceCtorEq, reduceAdd, reduceEqDiff, reduceLeDiff, reduceLT, hwT, selS, erT, scT, esT]⟩ (ih_spec_l11Is_L0 (p0, 0) (.inl r14) h_s13 _ ?_ ?_)
    · intro v hv; cases hv
    · intro r' hr' env st hy
      cases hr'
      simp only [gE, ↓gT, ↓reduceIte, reduceCtorEq, reduceAdd, reduceEqDiff, reduceLeDiff, reduceLT]
      obtain rfl := Option.some.inj h
      exact hy
  · dsimp only at h
    refine SemF.loop rfl ?_
    refine SemL.weak (sel := []) ⟨by simp only [gE, ↓gT, ↓reduceIte, reduceCtorEq, reduceAdd, reduceEqDiff, reduceLeDiff, reduceLT, hwT, selS, erT], by decide, by decide, by simp only [gE, ↓gT, ↓reduceIte, reduceCtorEq, reduceAdd, reduceEqDiff, reduceLeDiff, reduceLT, hwT, selS, erT, subR], by simp only [gE, ↓gT, ↓reduceIte, reduceCtorEq, reduceAdd, reduceEqDiff, reduceLeDiff, reduceLT, hwT, selS, erT, scT, esT], by simp only [gE, ↓gT, ↓reduceIte, reduceCtorEq, reduceAdd, reduceEqDiff, reduceLeDiff, reduceLT, hwT, selS, erT, scT, esT]⟩ (ih_spec_l11Is_L0 (p0, 0) (.inr v15) h_s13 _ ?_ ?_)
    rotate_left
    · intro r' hr'; cases hr'
    intro v hv env st sel hw
    cases hv
    simp only [gE, ↓gT, ↓reduceIte, reduceCtorEq, reduceAdd, reduceEqDiff, reduceLeDiff, reduceLT]
    first | refine SemF.weak hw ?_ | refine SemL.weak hw ?_
    refine SemF.seq rfl ?_
    refine SemF.reg true rfl ?_
    try simp only [gE, ↓gT, ↓reduceIte, reduceCtorEq, reduceAdd, reduceEqDiff, reduceLeDiff, reduceLT]; (repeat intro (_ : _ ≤ lim))
    refine SemF.ret rfl ?_
    try simp only [gE, ↓gT, ↓reduceIte, reduceCtorEq, reduceAdd, reduceEqDiff, reduceLeDiff, reduceLT]; (repeat intro (_ : _ ≤ lim))
    obtain rfl := Option.some.inj h
    simp only [gE, ↓gT, ↓reduceIte, reduceCtorEq, reduceAdd, reduceEqDiff, reduceLeDiff, reduceLT, RetP_def]
theorem spec_l11Is_L0_step (f_spec_IsBare : Exp → Option Bool) (f_spec_l11Is_L0 : ((List Dec) × Int) → Option (Sum Bool Unit)) (ih_spec_IsBare : ∀ (x : Exp) (r : Bool), f_spec_IsBare x = some r → HCp P F.spec_IsBare [(Exp.enc x)] (HV.bool r)) (ih_spec_l11Is_L0 : ∀ (x : ((List Dec) × Int)) (out : (Sum Bool Unit)), f_spec_l11Is_L0 x = some out → ∀ Q : HExit → Env → St → Prop, (∀ v, out = .inr v → ∀ env st sel, Weak 0 sel [] [] env st → Q (.exit 0) env st) → (∀ r, out = .inl r → ∀ env st, RetP [(2, none)] (HV.bool r) env st → Q .ret env st) → SemL P H.spec_l11Is.ntmps 0 H.spec_l11Is_l4 [(0, (.sl (List.map Dec.enc x.1))), (3, (.int .i64 x.2))] [] Q) (x : ((List Dec) × Int)) (out : (Sum Bool Unit)) (h : (if x.2 < ((x.1.length : Nat) : Int) then (ix x.1 x.2 >>= fun e8 =>
    (if 0 < ((e8.Pars.length : Nat) : Int) then some (.inl false) else
    (if 0 < ((e8.Where.length : Nat) : Int) then some (.inl false) else
    (f_spec_IsBare e8.E >>= fun r11 =>
    (if r11 = true then f_spec_l11Is_L0 (x.1, (IntKind.i64.wrap (x.2 + 1))) else
    some (.inl false)))))) else
    some (.inr ())) = some out) : ∀ Q : HExit → Env → St → Prop, (∀ v, out = .inr v → ∀ env st sel, Weak 0 sel [] [] env st → Q (.exit 0) env st) → (∀ r, out = .inl r → ∀ env st, RetP [(2, none)] (HV.bool r) env st → Q .ret env st) → SemL P H.spec_l11Is.ntmps 0 H.spec_l11Is_l4 [(0, (.sl (List.map Dec.enc x.1))), (3, (.int .i64 x.2))] [] Q := by
  obtain ⟨p0, t3_L0⟩ := x
  try dsimp only at h
  intro Q hx hr
  refine SemL.round ?_
  try dsimp only at hx
  refine SemF.seq rfl ?_
  refine SemF.seq rfl ?_
  refine SemF.reg true rfl ?_
  try simp only [gE, ↓gT, ↓reduceIte, reduceCtorEq, reduceAdd, reduceEqDiff, reduceLeDiff, reduceLT]; (repeat intro (_ : _ ≤ lim))
  (repeat intro (_ : _ ≤ lim))
  by_cases hc7 : t3_L0 < ((p0.length : Nat) : Int)
  · rw [if_pos hc7] at h
    refine SemF.cond rfl ?_
    simp only [gE, ↓gT, ↓reduceIte, reduceCtorEq, reduceAdd, reduceEqDiff, reduceLeDiff, reduceLT, eq_true hc7]
    refine SemF.skip rfl ?_
    simp only [gE, ↓gT, ↓reduceIte, reduceCtorEq, reduceAdd, reduceEqDiff, reduceLeDiff, reduceLT, eq_true hc7]
    refine SemF.seq rfl ?_
    refine SemF.block rfl ?_
    refine SemF.seq rfl ?_
    refine SemF.reg true rfl ?_
    try simp only [gE, ↓gT, ↓reduceIte, reduceCtorEq, reduceAdd, reduceEqDiff, reduceLeDiff, reduceLT, eq_true hc7]; (repeat intro (_ : _ ≤ lim))
    obtain ⟨e8, h_e8, h⟩ := bs h
    have m_e8 := ixm (f := Dec.enc) (ix_get h_e8)
    try simp only [gE, ↓gT, ↓reduceIte, reduceCtorEq, reduceAdd, reduceEqDiff, reduceLeDiff, reduceLT, eq_true hc7, eq_true (ix_nn h_e8), m_e8]; (repeat intro (_ : _ ≤ lim))
    (repeat intro (_ : _ ≤ lim))
    by_cases hc9 : 0 < ((e8.Pars.length : Nat) : Int)
    · rw [if_pos hc9] at h
      try simp only [gE, ↓gT, ↓reduceIte, reduceCtorEq, reduceAdd, reduceEqDiff, reduceLeDiff, reduceLT, eq_true hc7, eq_true (ix_nn h_e8), m_e8, eq_true hc9]; (repeat intro (_ : _ ≤ lim))
      refine SemF.cond rfl ?_
      simp only [gE, ↓gT, ↓reduceIte, reduceCtorEq, reduceAdd, reduceEqDiff, reduceLeDiff, reduceLT, eq_true hc7, eq_true (ix_nn h_e8), m_e8, eq_true hc9]
      refine SemF.seq rfl ?_
      refine SemF.reg true rfl ?_
      try simp only [gE, ↓gT, ↓reduceIte, reduceCtorEq, reduceAdd, reduceEqDiff, reduceLeDiff, reduceLT, eq_true hc7, eq_true (ix_nn h_e8), m_e8, eq_true hc9]; (repeat intro (_ : _ ≤ lim))
      refine SemF.ret rfl ?_
      try simp only [gE, ↓gT, ↓reduceIte, reduceCtorEq, reduceAdd, reduceEqDiff, reduceLeDiff, reduceLT, eq_true hc7, eq_true (ix_nn h_e8), m_e8, eq_true hc9]; (repeat intro (_ : _ ≤ lim))
      obtain rfl := Option.some.inj h
      refine hr _ rfl _ _ ?_
      simp only [gE, ↓gT, ↓reduceIte, reduceCtorEq, reduceAdd, reduceEqDiff, reduceLeDiff, reduceLT, RetP_def, eq_true hc7, eq_true (ix_nn h_e8), m_e8, eq_true hc9]
    · rw [if_neg hc9] at h
      try simp only [gE, ↓gT, ↓reduceIte, reduceCtorEq, reduceAdd, reduceEqDiff, reduceLeDiff, reduceLT, eq_true hc7, eq_true (ix_nn h_e8), m_e8, eq_false hc9]; (repeat intro (_ : _ ≤ lim))
      (repeat intro (_ : _ ≤ lim))
      by_cases hc10 : 0 < ((e8.Where.length : Nat) : Int)
      · rw [if_pos hc10] at h
        try simp only [gE, ↓gT, ↓reduceIte, reduceCtorEq, reduceAdd, reduceEqDiff, reduceLeDiff, reduceLT, eq_true hc7, eq_true (ix_nn h_e8), m_e8, eq_false hc9, eq_true hc10]; (repeat intro (_ : _ ≤ lim))
        refine SemF.cond rfl ?_
        simp only [gE, ↓gT, ↓reduceIte, reduceCtorEq, reduceAdd, reduceEqDiff, reduceLeDiff, reduceLT, eq_true hc7, eq_true (ix_nn h_e8), m_e8, eq_false hc9, eq_true hc10]
        refine SemF.seq rfl ?_
        refine SemF.reg true rfl ?_
        try simp only [gE, ↓gT, ↓reduceIte, reduceCtorEq, reduceAdd, reduceEqDiff, reduceLeDiff, reduceLT, eq_true hc7, eq_true (ix_nn h_e8), m_e8, eq_false hc9, eq_true hc10]; (repeat intro (_ : _ ≤ lim))
        refine SemF.ret rfl ?_
        try simp only [gE, ↓gT, ↓reduceIte, reduceCtorEq, reduceAdd, reduceEqDiff, reduceLeDiff, reduceLT, eq_true hc7, eq_true (ix_nn h_e8), m_e8, eq_false hc9, eq_true hc10]; (repeat intro (_ : _ ≤ lim))
        obtain rfl := Option.some.inj h
        refine hr _ rfl _ _ ?_
        simp only [gE, ↓gT, ↓reduceIte, reduceCtorEq, reduceAdd, reduceEqDiff, reduceLeDiff, reduceLT, RetP_def, eq_true hc7, eq_true (ix_nn h_e8), m_e8, eq_false hc9, eq_true hc10]
      · rw [if_neg hc10] at h
        try simp only [gE, ↓gT, ↓reduceIte, reduceCtorEq, reduceAdd, reduceEqDiff, reduceLeDiff, reduceLT, eq_true hc7, eq_true (ix_nn h_e8), m_e8, eq_false hc9, eq_false hc10]; (repeat intro (_ : _ ≤ lim))
        obtain ⟨r11, h_r11, h⟩ := bs h
        refine HCp.callE (ih_spec_IsBare e8.E r11 h_r11) (by simp only [gE, ↓gT, ↓reduceIte, reduceCtorEq, reduceAdd, reduceEqDiff, reduceLeDiff, reduceLT, eq_true hc7, eq_true (ix_nn h_e8), m_e8, eq_false hc9, eq_false hc10]) (by simp only [scT, esT, and_self, true_and, and_true]) (by simp only [scT, esT, and_self, true_and, and_true]) ?_
        try simp only [gE, ↓gT, ↓reduceIte, reduceCtorEq, reduceAdd, reduceEqDiff, reduceLeDiff, reduceLT, eq_true hc7, eq_true (ix_nn h_e8), m_e8, eq_false hc9, eq_false hc10]; (repeat intro (_ : _ ≤ lim))
        by_cases hc12 : r11 = true
        · rw [if_pos hc12] at h
          refine SemF.cond rfl ?_
          simp only [gE, ↓gT, ↓reduceIte, reduceCtorEq, reduceAdd, reduceEqDiff, reduceLeDiff, reduceLT, eq_true hc7, eq_true (ix_nn h_e8), m_e8, eq_false hc9, eq_false hc10, hc12]
          refine SemF.skip rfl ?_
          simp only [gE, ↓gT, ↓reduceIte, reduceCtorEq, reduceAdd, reduceEqDiff, reduceLeDiff, reduceLT, eq_true hc7, eq_true (ix_nn h_e8), m_e8, eq_false hc9, eq_false hc10, hc12]
          refine SemF.reg true rfl ?_
          try simp only [gE, ↓gT, ↓reduceIte, reduceCtorEq, reduceAdd, reduceEqDiff, reduceLeDiff, reduceLT, eq_true hc7, eq_true (ix_nn h_e8), m_e8, eq_false hc9, eq_false hc10, hc12]; (repeat intro (_ : _ ≤ lim))
          refine SemL.weak (sel := []) ⟨by simp only [gE, ↓gT, ↓reduceIte, reduceCtorEq, reduceAdd, reduceEqDiff, reduceLeDiff, reduceLT, hwT, selS, erT, eq_true hc7, eq_true (ix_nn h_e8), m_e8, eq_false hc9, eq_false hc10, hc12], by decide, by decide, by simp only [gE, ↓gT, ↓reduceIte, reduceCtorEq, reduceAdd, reduceEqDiff, reduceLeDiff, reduceLT, hwT, selS, erT, subR, eq_true hc7, eq_true (ix_nn h_e8), m_e8, eq_false hc9, eq_false hc10, hc12], by simp only [gE, ↓gT, ↓reduceIte, reduceCtorEq, reduceAdd, reduceEqDiff, reduceLeDiff, reduceLT, hwT, selS, erT, scT, esT, eq_true hc7, eq_true (ix_nn h_e8), m_e8, eq_false hc9, eq_false hc10, hc12], by simp only [gE, ↓gT, ↓reduceIte, reduceCtorEq, reduceAdd, reduceEqDiff, reduceLeDiff, reduceLT, hwT, selS, erT, scT, esT, eq_true hc7, eq_true (ix_nn h_e8), m_e8, eq_false hc9, eq_false hc10, hc12]⟩ (ih_spec_l11Is_L0 (p0, (IntKind.i64.wrap (t3_L0 + 1))) out h Q hx hr)
        · rw [if_neg hc12] at h
          replace hc12 := eq_false_of_ne_true hc12
          refine SemF.cond rfl ?_
          simp only [gE, ↓gT, ↓reduceIte, reduceCtorEq, reduceAdd, reduceEqDiff, reduceLeDiff, reduceLT, eq_true hc7, eq_true (ix_nn h_e8), m_e8, eq_false hc9, eq_false hc10, hc12]
          refine SemF.seq rfl ?_
          refine SemF.reg true rfl ?_
          try simp only [gE, ↓gT, ↓reduceIte, reduceCtorEq, reduceAdd, reduceEqDiff, reduceLeDiff, reduceLT, eq_true hc7, eq_true (ix_nn h_e8), m_e8, eq_false hc9, eq_false hc10, hc12]; (repeat intro (_ : _ ≤ lim))
          refine SemF.ret rfl ?_
          try simp only [gE, ↓gT, ↓reduceIte, reduceCtorEq, reduceAdd, reduceEqDiff, reduceLeDiff, reduceLT, eq_true hc7, eq_true (ix_nn h_e8), m_e8, eq_false hc9, eq_false hc10, hc12]; (repeat intro (_ : _ ≤ lim))
          obtain rfl := Option.some.inj h
          refine hr _ rfl _ _ ?_
          simp only [gE, ↓gT, ↓reduceIte, reduceCtorEq, reduceAdd, reduceEqDiff, reduceLeDiff, reduceLT, RetP_def, eq_true hc7, eq_true (ix_nn h_e8), m_e8, eq_false hc9, eq_false hc10, hc12]
  · rw [if_neg hc7] at h
    refine SemF.cond rfl ?_
    simp only [gE, ↓gT, ↓reduceIte, reduceCtorEq, reduceAdd, reduceEqDiff, reduceLeDiff, reduceLT, eq_false hc7]
    refine SemF.exit rfl ?_
    simp only [gE, ↓gT, ↓reduceIte, reduceCtorEq, reduceAdd, reduceEqDiff, reduceLeDiff, reduceLT, eq_false hc7]
    obtain rfl := Option.some.inj h
    refine hx _ rfl _ _ [] ⟨by simp only [gE, ↓gT, ↓reduceIte, reduceCtorEq, reduceAdd, reduceEqDiff, reduceLeDiff, reduceLT, hwT, selS, erT, eq_false hc7], by decide, by decide, by simp only [gE, ↓gT, ↓reduceIte, reduceCtorEq, reduceAdd, reduceEqDiff, reduceLeDiff, reduceLT, hwT, selS, erT, subR, eq_false hc7], by simp only [gE, ↓gT, ↓reduceIte, reduceCtorEq, reduceAdd, reduceEqDiff, reduceLeDiff, reduceLT, hwT, selS, erT, scT, esT, eq_false hc7], by simp only [gE, ↓gT, ↓reduceIte, reduceCtorEq, reduceAdd, reduceEqDiff, reduceLeDiff, reduceLT, hwT, selS, erT, scT, esT, eq_false hc7]⟩
theorem spec_IsBare_L1_step (f_spec_IsBare : Exp → Option Bool) (f_spec_IsBare_L1 : (Exp × Int) → Option (Sum Bool Unit)) (ih_spec_IsBare : ∀ (x : Exp) (r : Bool), f_spec_IsBare x = some r → HCp P F.spec_IsBare [(Exp.enc x)] (HV.bool r)) (ih_spec_IsBare_L1 : ∀ (x : (Exp × Int)) (out : (Sum Bool Unit)), f_spec_IsBare_L1 x = some out → ∀ Q : HExit → Env → St → Prop, (∀ v, out = .inr v → ∀ env st sel, Weak 0 sel [(1, (.ptr 0 1 0 0))] [(.box (Exp.enc x.1))] env st → Q (.exit 2) env st) → (∀ r, out = .inl r → ∀ env st, RetP [(2, none)] (HV.bool r) env st → Q .ret env st) → SemL P H.spec_IsBare.ntmps 0 H.spec_IsBare_l5 [(1, (.ptr 0 1 0 0)), (4, (.int .i64 x.2))] [(.box (Exp.enc x.1))] Q) (x : (Exp × Int)) (out : (Sum Bool Unit)) (h : (if x.2 < ((x.1.Alts.length : Nat) : Int) then (ix x.1.Alts x.2 >>= fun e17 =>
    (f_spec_IsBare e17.E >>= fun r18 =>
    (if r18 = true then f_spec_IsBare_L1 (x.1, (IntKind.i64.wrap (x.2 + 1))) else
    some (.inl false)))) else
    some (.inr ())) = some out) : ∀ Q : HExit → Env → St → Prop, (∀ v, out = .inr v → ∀ env st sel, Weak 0 sel [(1, (.ptr 0 1 0 0))] [(.box (Exp.enc x.1))] env st → Q (.exit 2) env st) → (∀ r, out = .inl r → ∀ env st, RetP [(2, none)] (HV.bool r) env st → Q .ret env st) → SemL P H.spec_IsBare.ntmps 0 H.spec_IsBare_l5 [(1, (.ptr 0 1 0 0)), (4, (.int .i64 x.2))] [(.box (Exp.enc x.1))] Q := by
  obtain ⟨p0, t4_L1⟩ := x
  try dsimp only at h
  intro Q hx hr
  refine SemL.round ?_
  try dsimp only at hx
  refine SemF.seq rfl ?_
  refine SemF.seq rfl ?_
  refine SemF.reg true rfl ?_
  try simp only [gE, ↓gT, ↓reduceIte, reduceCtorEq, reduceAdd, reduceEqDiff, reduceLeDiff, reduceLT]; (repeat intro (_ : _ ≤ lim))
  (repeat intro (_ : _ ≤ lim))
  by_cases hc16 : t4_L1 < ((p0.Alts.length : Nat) : Int)
  · rw [if_pos hc16] at h
    refine SemF.cond rfl ?_
    simp only [gE, ↓gT, ↓reduceIte, reduceCtorEq, reduceAdd, reduceEqDiff, reduceLeDiff, reduceLT, eq_true hc16]
    refine SemF.skip rfl ?_
    simp only [gE, ↓gT, ↓reduceIte, reduceCtorEq, reduceAdd, reduceEqDiff, reduceLeDiff, reduceLT, eq_true hc16]
    refine SemF.seq rfl ?_
    refine SemF.block rfl ?_
    refine SemF.seq rfl ?_
    refine SemF.reg true rfl ?_
    try simp only [gE, ↓gT, ↓reduceIte, reduceCtorEq, reduceAdd, reduceEqDiff, reduceLeDiff, reduceLT, eq_true hc16]; (repeat intro (_ : _ ≤ lim))
    obtain ⟨e17, h_e17, h⟩ := bs h
    have m_e17 := ixm (f := Alt.enc) (ix_get h_e17)
    try simp only [gE, ↓gT, ↓reduceIte, reduceCtorEq, reduceAdd, reduceEqDiff, reduceLeDiff, reduceLT, eq_true hc16, eq_true (ix_nn h_e17), m_e17]; (repeat intro (_ : _ ≤ lim))
    obtain ⟨r18, h_r18, h⟩ := bs h
    refine HCp.callE (ih_spec_IsBare e17.E r18 h_r18) (by simp only [gE, ↓gT, ↓reduceIte, reduceCtorEq, reduceAdd, reduceEqDiff, reduceLeDiff, reduceLT, eq_true hc16, eq_true (ix_nn h_e17), m_e17]) (by simp only [scT, esT, and_self, true_and, and_true]) (by simp only [scT, esT, and_self, true_and, and_true]) ?_
    try simp only [gE, ↓gT, ↓reduceIte, reduceCtorEq, reduceAdd, reduceEqDiff, reduceLeDiff, reduceLT, eq_true hc16, eq_true (ix_nn h_e17), m_e17]; (repeat intro (_ : _ ≤ lim))
    by_cases hc19 : r18 = true
    · rw [if_pos hc19] at h
      refine SemF.cond rfl ?_
      simp only [gE, ↓gT, ↓reduceIte, reduceCtorEq, reduceAdd, reduceEqDiff, reduceLeDiff, reduceLT, eq_true hc16, eq_true (ix_nn h_e17), m_e17, hc19]
      refine SemF.skip rfl ?_
      simp only [gE, ↓gT, ↓reduceIte, reduceCtorEq, reduceAdd, reduceEqDiff, reduceLeDiff, reduceLT, eq_true hc16, eq_true (ix_nn h_e17), m_e17, hc19]
      refine SemF.reg true rfl ?_
      try simp only [gE, ↓gT, ↓reduceIte, reduceCtorEq, reduceAdd, reduceEqDiff, reduceLeDiff, reduceLT, eq_true hc16, eq_true (ix_nn h_e17), m_e17, hc19]; (repeat intro (_ : _ ≤ lim))
      refine SemL.weak (sel := [0]) ⟨by simp only [gE, ↓gT, ↓reduceIte, reduceCtorEq, reduceAdd, reduceEqDiff, reduceLeDiff, reduceLT, hwT, selS, erT, eq_true hc16, eq_true (ix_nn h_e17), m_e17, hc19], by decide, by decide, by simp only [gE, ↓gT, ↓reduceIte, reduceCtorEq, reduceAdd, reduceEqDiff, reduceLeDiff, reduceLT, hwT, selS, erT, subR, eq_true hc16, eq_true (ix_nn h_e17), m_e17, hc19], by simp only [gE, ↓gT, ↓reduceIte, reduceCtorEq, reduceAdd, reduceEqDiff, reduceLeDiff, reduceLT, hwT, selS, erT, scT, esT, eq_true hc16, eq_true (ix_nn h_e17), m_e17, hc19], by simp only [gE, ↓gT, ↓reduceIte, reduceCtorEq, reduceAdd, reduceEqDiff, reduceLeDiff, reduceLT, hwT, selS, erT, scT, esT, eq_true hc16, eq_true (ix_nn h_e17), m_e17, hc19]⟩ (ih_spec_IsBare_L1 (p0, (IntKind.i64.wrap (t4_L1 + 1))) out h Q hx hr)
    · rw [if_neg hc19] at h
      replace hc19 := eq_false_of_ne_true hc19
      refine SemF.cond rfl ?_
      simp only [gE, ↓gT, ↓reduceIte, reduceCtorEq, reduceAdd, reduceEqDiff, reduceLeDiff, reduceLT, eq_true hc16, eq_true (ix_nn h_e17), m_e17, hc19]
      refine SemF.seq rfl ?_
      refine SemF.reg true rfl ?_
      try simp only [gE, ↓gT, ↓reduceIte, reduceCtorEq, reduceAdd, reduceEqDiff, reduceLeDiff, reduceLT, eq_true hc16, eq_true (ix_nn h_e17), m_e17, hc19]; (repeat intro (_ : _ ≤ lim))
      refine SemF.ret rfl ?_
      try simp only [gE, ↓gT, ↓reduceIte, reduceCtorEq, reduceAdd, reduceEqDiff, reduceLeDiff, reduceLT, eq_true hc16, eq_true (ix_nn h_e17), m_e17, hc19]; (repeat intro (_ : _ ≤ lim))
      obtain rfl := Option.some.inj h
      refine hr _ rfl _ _ ?_
      simp only [gE, ↓gT, ↓reduceIte, reduceCtorEq, reduceAdd, reduceEqDiff, reduceLeDiff, reduceLT, RetP_def, eq_true hc16, eq_true (ix_nn h_e17), m_e17, hc19]
  · rw [if_neg hc16] at h
    refine SemF.cond rfl ?_
    simp only [gE, ↓gT, ↓reduceIte, reduceCtorEq, reduceAdd, reduceEqDiff, reduceLeDiff, reduceLT, eq_false hc16]
    refine SemF.exit rfl ?_
    simp only [gE, ↓gT, ↓reduceIte, reduceCtorEq, reduceAdd, reduceEqDiff, reduceLeDiff, reduceLT, eq_false hc16]
    obtain rfl := Option.some.inj h
    refine hx _ rfl _ _ [0] ⟨by simp only [gE, ↓gT, ↓reduceIte, reduceCtorEq, reduceAdd, reduceEqDiff, reduceLeDiff, reduceLT, hwT, selS, erT, eq_false hc16], by decide, by decide, by simp only [gE, ↓gT, ↓reduceIte, reduceCtorEq, reduceAdd, reduceEqDiff, reduceLeDiff, reduceLT, hwT, selS, erT, subR, eq_false hc16], by simp only [gE, ↓gT, ↓reduceIte, reduceCtorEq, reduceAdd, reduceEqDiff, reduceLeDiff, reduceLT, hwT, selS, erT, scT, esT, eq_false hc16], by simp only [gE, ↓gT, ↓reduceIte, reduceCtorEq, reduceAdd, reduceEqDiff, reduceLeDiff, reduceLT, hwT, selS, erT, scT, esT, eq_false hc16]⟩
theorem spec_IsBare_L0_step (f_spec_IsBare : Exp → Option Bool) (f_spec_IsBare_L0 : (Exp × Int) → Option (Sum Bool Unit)) (ih_spec_IsBare : ∀ (x : Exp) (r : Bool), f_spec_IsBare x = some r → HCp P F.spec_IsBare [(Exp.enc x)] (HV.bool r)) (ih_spec_IsBare_L0 : ∀ (x : (Exp × Int)) (out : (Sum Bool Unit)), f_spec_IsBare_L0 x = some out → ∀ Q : HExit → Env → St → Prop, (∀ v, out = .inr v → ∀ env st sel, Weak 0 sel [(1, (.ptr 0 1 0 0))] [(.box (Exp.enc x.1))] env st → Q (.exit 0) env st) → (∀ r, out = .inl r → ∀ env st, RetP [(2, none)] (HV.bool r) env st → Q .ret env st) → SemL P H.spec_IsBare.ntmps 0 H.spec_IsBare_l12 [(1, (.ptr 0 1 0 0)), (3, (.int .i64 x.2))] [(.box (Exp.enc x.1))] Q) (x : (Exp × Int)) (out : (Sum Bool Unit)) (h : (if x.2 < ((x.1.L.length : Nat) : Int) then (ix x.1.L x.2 >>= fun e6 =>
    (f_spec_IsBare e6 >>= fun r7 =>
    (if r7 = true then f_spec_IsBare_L0 (x.1, (IntKind.i64.wrap (x.2 + 1))) else
    some (.inl false)))) else
    some (.inr ())) = some out) : ∀ Q : HExit → Env → St → Prop, (∀ v, out = .inr v → ∀ env st sel, Weak 0 sel [(1, (.ptr 0 1 0 0))] [(.box (Exp.enc x.1))] env st → Q (.exit 0) env st) → (∀ r, out = .inl r → ∀ env st, RetP [(2, none)] (HV.bool r) env st → Q .ret env st) → SemL P H.spec_IsBare.ntmps 0 H.spec_IsBare_l12 [(1, (.ptr 0 1 0 0)), (3, (.int .i64 x.2))] [(.box (Exp.enc x.1))] Q := by
  obtain ⟨p0, t3_L0⟩ := x
  try dsimp only at h
  intro Q hx hr
  refine SemL.round ?_
  try dsimp only at hx
  refine SemF.seq rfl ?_
  refine SemF.seq rfl ?_
  refine SemF.reg true rfl ?_
  try simp only [gE, ↓gT, ↓reduceIte, reduceCtorEq, reduceAdd, reduceEqDiff, reduceLeDiff, reduceLT]; (repeat intro (_ : _ ≤ lim))
  (repeat intro (_ : _ ≤ lim))
  by_cases hc5 : t3_L0 < ((p0.L.length : Nat) : Int)
  · rw [if_pos hc5] at h
    refine SemF.cond rfl ?_
    simp only [gE, ↓gT, ↓reduceIte, reduceCtorEq, reduceAdd, reduceEqDiff, reduceLeDiff, reduceLT, eq_true hc5]
    refine SemF.skip rfl ?_
    simp only [gE, ↓gT, ↓reduceIte, reduceCtorEq, reduceAdd, reduceEqDiff, reduceLeDiff, reduceLT, eq_true hc5]
    refine SemF.seq rfl ?_
    refine SemF.block rfl ?_
    refine SemF.seq rfl ?_
    refine SemF.reg true rfl ?_
    try simp only [gE, ↓gT, ↓reduceIte, reduceCtorEq, reduceAdd, reduceEqDiff, reduceLeDiff, reduceLT, eq_true hc5]; (repeat intro (_ : _ ≤ lim))
    obtain ⟨e6, h_e6, h⟩ := bs h
    have m_e6 := ixm (f := Exp.enc) (ix_get h_e6)
    try simp only [gE, ↓gT, ↓reduceIte, reduceCtorEq, reduceAdd, reduceEqDiff, reduceLeDiff, reduceLT, eq_true hc5, eq_true (ix_nn h_e6), m_e6]; (repeat intro (_ : _ ≤ lim))
    obtain ⟨r7, h_r7, h⟩ := bs h
    refine HCp.callE (ih_spec_IsBare e6 r7 h_r7) (by simp only [gE, ↓gT, ↓reduceIte, reduceCtorEq, reduceAdd, reduceEqDiff, reduceLeDiff, reduceLT, eq_true hc5, eq_true (ix_nn h_e6), m_e6]) (by simp only [scT, esT, and_self, true_and, and_true]) (by simp only [scT, esT, and_self, true_and, and_true]) ?_
    try simp only [gE, ↓gT, ↓reduceIte, reduceCtorEq, reduceAdd, reduceEqDiff, reduceLeDiff, reduceLT, eq_true hc5, eq_true (ix_nn h_e6), m_e6]; (repeat intro (_ : _ ≤ lim))
    by_cases hc8 : r7 = true
    · rw [if_pos hc8] at h
      refine SemF.cond rfl ?_
      simp only [gE, ↓gT, ↓reduceIte, reduceCtorEq, reduceAdd, reduceEqDiff, reduceLeDiff, reduceLT, eq_true hc5, eq_true (ix_nn h_e6), m_e6, hc8]
      refine SemF.skip rfl ?_
      simp only [gE, ↓gT, ↓reduceIte, reduceCtorEq, reduceAdd, reduceEqDiff, reduceLeDiff, reduceLT, eq_true hc5, eq_true (ix_nn h_e6), m_e6, hc8]
      refine SemF.reg true rfl ?_
      try simp only [gE, ↓gT, ↓reduceIte, reduceCtorEq, reduceAdd, reduceEqDiff, reduceLeDiff, reduceLT, eq_true hc5, eq_true (ix_nn h_e6), m_e6, hc8]; (repeat intro (_ : _ ≤ lim))
      refine SemL.weak (sel := [0]) ⟨by simp only [gE, ↓gT, ↓reduceIte, reduceCtorEq, reduceAdd, reduceEqDiff, reduceLeDiff, reduceLT, hwT, selS, erT, eq_true hc5, eq_true (ix_nn h_e6), m_e6, hc8], by decide, by decide, by simp only [gE, ↓gT, ↓reduceIte, reduceCtorEq, reduceAdd, reduceEqDiff, reduceLeDiff, reduceLT, hwT, selS, erT, subR, eq_true hc5, eq_true (ix_nn h_e6), m_e6, hc8], by simp only [gE, ↓gT, ↓reduceIte, reduceCtorEq, reduceAdd, reduceEqDiff, reduceLeDiff, reduceLT, hwT, selS, erT, scT, esT, eq_true hc5, eq_true (ix_nn h_e6), m_e6, hc8], by simp only [gE, ↓gT, ↓reduceIte, reduceCtorEq, reduceAdd, reduceEqDiff, reduceLeDiff, reduceLT, hwT, selS, erT, scT, esT, eq_true hc5, eq_true (ix_nn h_e6), m_e6, hc8]⟩ (ih_spec_IsBare_L0 (p0, (IntKind.i64.wrap (t3_L0 + 1))) out h Q hx hr)
    · rw [if_neg hc8] at h
      replace hc8 := eq_false_of_ne_true hc8
      refine SemF.cond rfl ?_
      simp only [gE, ↓gT, ↓reduceIte, reduceCtorEq, reduceAdd, reduceEqDiff, reduceLeDiff, reduceLT, eq_true hc5, eq_true (ix_nn h_e6), m_e6, hc8]
      refine SemF.seq rfl ?_
      refine SemF.reg true rfl ?_
      try simp only [gE, ↓gT, ↓reduceIte, reduceCtorEq, reduceAdd, reduceEqDiff, reduceLeDiff, reduceLT, eq_true hc5, eq_true (ix_nn h_e6), m_e6, hc8]; (repeat intro (_ : _ ≤ lim))
      refine SemF.ret rfl ?_
      try simp only [gE, ↓gT, ↓reduceIte, reduceCtorEq, reduceAdd, reduceEqDiff, reduceLeDiff, reduceLT, eq_true hc5, eq_true (ix_nn h_e6), m_e6, hc8]; (repeat intro (_ : _ ≤ lim))
      obtain rfl := Option.some.inj h
      refine hr _ rfl _ _ ?_
      simp only [gE, ↓gT, ↓reduceIte, reduceCtorEq, reduceAdd, reduceEqDiff, reduceLeDiff, reduceLT, RetP_def, eq_true hc5, eq_true (ix_nn h_e6), m_e6, hc8]
  · rw [if_neg hc5] at h
    refine SemF.cond rfl ?_
    simp only [gE, ↓gT, ↓reduceIte, reduceCtorEq, reduceAdd, reduceEqDiff, reduceLeDiff, reduceLT, eq_false hc5]
    refine SemF.exit rfl ?_
    simp only [gE, ↓gT, ↓reduceIte, reduceCtorEq, reduceAdd, reduceEqDiff, reduceLeDiff, reduceLT, eq_false hc5]
    obtain rfl := Option.some.inj h
    refine hx _ rfl _ _ [0] ⟨by simp only [gE, ↓gT, ↓reduceIte, reduceCtorEq, reduceAdd, reduceEqDiff, reduceLeDiff, reduceLT, hwT, selS, erT, eq_false hc5], by decide, by decide, by simp only [gE, ↓gT, ↓reduceIte, reduceCtorEq, reduceAdd, reduceEqDiff, reduceLeDiff, reduceLT, hwT, selS, erT, subR, eq_false hc5], by simp only [gE, ↓gT, ↓reduceIte, reduceCtorEq, reduceAdd, reduceEqDiff, reduceLeDiff, reduceLT, hwT, selS, erT, scT, esT, eq_false hc5], by simp only [gE, ↓gT, ↓reduceIte, reduceCtorEq, reduceAdd, reduceEqDiff, reduceLeDiff, reduceLT, hwT, selS, erT, scT, esT, eq_false hc5]⟩
theorem spec_IsBare_all : (∀ (x : Exp) (r : Bool), M.spec_IsBare x = some r → HCp P F.spec_IsBare [(Exp.enc x)] (HV.bool r)) ∧
  (∀ (x : (List Dec)) (r : Bool), M.spec_l11Is x = some r → HCp P F.spec_l11Is [(.sl (List.map Dec.enc x))] (HV.bool r)) ∧
  (∀ (x : ((List Dec) × Int)) (out : (Sum Bool Unit)), M.spec_l11Is_L0 x = some out → ∀ Q : HExit → Env → St → Prop, (∀ v, out = .inr v → ∀ env st sel, Weak 0 sel [] [] env st → Q (.exit 0) env st) → (∀ r, out = .inl r → ∀ env st, RetP [(2, none)] (HV.bool r) env st → Q .ret env st) → SemL P H.spec_l11Is.ntmps 0 H.spec_l11Is_l4 [(0, (.sl (List.map Dec.enc x.1))), (3, (.int .i64 x.2))] [] Q) ∧
  (∀ (x : (Exp × Int)) (out : (Sum Bool Unit)), M.spec_IsBare_L1 x = some out → ∀ Q : HExit → Env → St → Prop, (∀ v, out = .inr v → ∀ env st sel, Weak 0 sel [(1, (.ptr 0 1 0 0))] [(.box (Exp.enc x.1))] env st → Q (.exit 2) env st) → (∀ r, out = .inl r → ∀ env st, RetP [(2, none)] (HV.bool r) env st → Q .ret env st) → SemL P H.spec_IsBare.ntmps 0 H.spec_IsBare_l5 [(1, (.ptr 0 1 0 0)), (4, (.int .i64 x.2))] [(.box (Exp.enc x.1))] Q) ∧
  (∀ (x : (Exp × Int)) (out : (Sum Bool Unit)), M.spec_IsBare_L0 x = some out → ∀ Q : HExit → Env → St → Prop, (∀ v, out = .inr v → ∀ env st sel, Weak 0 sel [(1, (.ptr 0 1 0 0))] [(.box (Exp.enc x.1))] env st → Q (.exit 0) env st) → (∀ r, out = .inl r → ∀ env st, RetP [(2, none)] (HV.bool r) env st → Q .ret env st) → SemL P H.spec_IsBare.ntmps 0 H.spec_IsBare_l12 [(1, (.ptr 0 1 0 0)), (3, (.int .i64 x.2))] [(.box (Exp.enc x.1))] Q) := by
  refine M.spec_IsBare.mutual_partial_correctness (motive_1 := fun x r => HCp P F.spec_IsBare [(Exp.enc x)] (HV.bool r)) (motive_2 := fun x r => HCp P F.spec_l11Is [(.sl (List.map Dec.enc x))] (HV.bool r)) (motive_3 := fun x out => ∀ Q : HExit → Env → St → Prop, (∀ v, out = .inr v → ∀ env st sel, Weak 0 sel [] [] env st → Q (.exit 0) env st) → (∀ r, out = .inl r → ∀ env st, RetP [(2, none)] (HV.bool r) env st → Q .ret env st) → SemL P H.spec_l11Is.ntmps 0 H.spec_l11Is_l4 [(0, (.sl (List.map Dec.enc x.1))), (3, (.int .i64 x.2))] [] Q) (motive_4 := fun x out => ∀ Q : HExit → Env → St → Prop, (∀ v, out = .inr v → ∀ env st sel, Weak 0 sel [(1, (.ptr 0 1 0 0))] [(.box (Exp.enc x.1))] env st → Q (.exit 2) env st) → (∀ r, out = .inl r → ∀ env st, RetP [(2, none)] (HV.bool r) env st → Q .ret env st) → SemL P H.spec_IsBare.ntmps 0 H.spec_IsBare_l5 [(1, (.ptr 0 1 0 0)), (4, (.int .i64 x.2))] [(.box (Exp.enc x.1))] Q) (motive_5 := fun x out => ∀ Q : HExit → Env → St → Prop, (∀ v, out = .inr v → ∀ env st sel, Weak 0 sel [(1, (.ptr 0 1 0 0))] [(.box (Exp.enc x.1))] env st → Q (.exit 0) env st) → (∀ r, out = .inl r → ∀ env st, RetP [(2, none)] (HV.bool r) env st → Q .ret env st) → SemL P H.spec_IsBare.ntmps 0 H.spec_IsBare_l12 [(1, (.ptr 0 1 0 0)), (3, (.int .i64 x.2))] [(.box (Exp.enc x.1))] Q) ?_ ?_ ?_ ?_ ?_
  · exact fun f_spec_l11Is f_spec_IsBare_L1 f_spec_IsBare_L0 ih_spec_l11Is ih_spec_IsBare_L1 ih_spec_IsBare_L0 x r h => K.spec_IsBare_step f_spec_l11Is f_spec_IsBare_L1 f_spec_IsBare_L0 ih_spec_l11Is ih_spec_IsBare_L1 ih_spec_IsBare_L0 x r h
  · exact fun f_spec_l11Is_L0 ih_spec_l11Is_L0 x r h => K.spec_l11Is_step f_spec_l11Is_L0 ih_spec_l11Is_L0 x r h
  · exact fun f_spec_IsBare f_spec_l11Is_L0 ih_spec_IsBare ih_spec_l11Is_L0 x out h => K.spec_l11Is_L0_step f_spec_IsBare f_spec_l11Is_L0 ih_spec_IsBare ih_spec_l11Is_L0 x out h
  · exact fun f_spec_IsBare f_spec_IsBare_L1 ih_spec_IsBare ih_spec_IsBare_L1 x out h => K.spec_IsBare_L1_step f_spec_IsBare f_spec_IsBare_L1 ih_spec_IsBare ih_spec_IsBare_L1 x out h
  · exact fun f_spec_IsBare f_spec_IsBare_L0 ih_spec_IsBare ih_spec_IsBare_L0 x out h => K.spec_IsBare_L0_step f_spec_IsBare f_spec_IsBare_L0 ih_spec_IsBare ih_spec_IsBare_L0 x out h
theorem spec_IsBare : (∀ (x : Exp) (r : Bool), M.spec_IsBare x = some r → HCp P F.spec_IsBare [(Exp.enc x)] (HV.bool r)) := K.spec_IsBare_all.1
theorem spec_l11Is : (∀ (x : (List Dec)) (r : Bool), M.spec_l11Is x = some r → HCp P F.spec_l11Is [(.sl (List.map Dec.enc x))] (HV.bool r)) := K.spec_IsBare_all.2.1
theorem spec_l11Is_L0 : (∀ (x : ((List Dec) × Int)) (out : (Sum Bool Unit)), M.spec_l11Is_L0 x = some out → ∀ Q : HExit → Env → St → Prop, (∀ v, out = .inr v → ∀ env st sel, Weak 0 sel [] [] env st → Q (.exit 0) env st) → (∀ r, out = .inl r → ∀ env st, RetP [(2, none)] (HV.bool r) env st → Q .ret env st) → SemL P H.spec_l11Is.ntmps 0 H.spec_l11Is_l4 [(0, (.sl (List.map Dec.enc x.1))), (3, (.int .i64 x.2))] [] Q) := K.spec_IsBare_all.2.2.1
theorem spec_IsBare_L1 : (∀ (x : (Exp × Int)) (out : (Sum Bool Unit)), M.spec_IsBare_L1 x = some out → ∀ Q : HExit → Env → St → Prop, (∀ v, out = .inr v → ∀ env st sel, Weak 0 sel [(1, (.ptr 0 1 0 0))] [(.box (Exp.enc x.1))] env st → Q (.exit 2) env st) → (∀ r, out = .inl r → ∀ env st, RetP [(2, none)] (HV.bool r) env st → Q .ret env st) → SemL P H.spec_IsBare.ntmps 0 H.spec_IsBare_l5 [(1, (.ptr 0 1 0 0)), (4, (.int .i64 x.2))] [(.box (Exp.enc x.1))] Q) := K.spec_IsBare_all.2.2.2.1
theorem spec_IsBare_L0 : (∀ (x : (Exp × Int)) (out : (Sum Bool Unit)), M.spec_IsBare_L0 x = some out → ∀ Q : HExit → Env → St → Prop, (∀ v, out = .inr v → ∀ env st sel, Weak 0 sel [(1, (.ptr 0 1 0 0))] [(.box (Exp.enc x.1))] env st → Q (.exit 0) env st) → (∀ r, out = .inl r → ∀ env st, RetP [(2, none)] (HV.bool r) env st → Q .ret env st) → SemL P H.spec_IsBare.ntmps 0 H.spec_IsBare_l12 [(1, (.ptr 0 1 0 0)), (3, (.int .i64 x.2))] [(.box (Exp.enc x.1))] Q) := K.spec_IsBare_all.2.2.2.2
end K
end W
