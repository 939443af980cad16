import Derived.Test.YtnhdobhfebiggaaFPrf8
namespace W
set_option linter.unusedSimpArgs false
set_option linter.unusedVariables false
open Go HL S
open Nat (reduceAdd reduceEqDiff reduceLeDiff reduceSub reduceMul reduceLT)
set_option linter.unusedVariables false
set_option maxRecDepth 100000
set_option maxHeartbeats 4000000
namespace K
theorem laws_eqAltS_L0_step (f_laws_eqAlt : (Alt × Alt) → Option Bool) (f_laws_eqAltS_L0 : ((List Alt) × (List Alt) × Int) → Option (Sum Bool Unit)) (ih_laws_eqAlt : ∀ (x : (Alt × Alt)) (r : Bool), f_laws_eqAlt x = some r → HCp P F.laws_eqAlt [(Alt.enc x.1), (Alt.enc x.2)] (HV.bool r)) (ih_laws_eqAltS_L0 : ∀ (x : ((List Alt) × (List Alt) × Int)) (out : (Sum Bool Unit)), f_laws_eqAltS_L0 x = some out → ∀ Q : HExit → Env → St → Prop, (∀ v, out = .inr v → ∀ env st sel, Weak 0 sel [] [] env st → Q (.exit 0) env st) → (∀ r, out = .inl r → ∀ env st, RetP [(4, none)] (HV.bool r) env st → Q .ret env st) → SemL P H.laws_eqAltS.ntmps 0 H.laws_eqAltS_l5 [(0, (.sl (List.map Alt.enc x.1))), (1, (.sl (List.map Alt.enc x.2.1))), (5, (.int .i64 x.2.2))] [] Q) (x : ((List Alt) × (List Alt) × Int)) (out : (Sum Bool Unit)) (h : (if x.2.2 < ((x.1.length : Nat) : Int) then (ix x.1 x.2.2 >>= fun e8 =>
    (ix x.2.1 x.2.2 >>= fun e9 =>
    (f_laws_eqAlt (e8, e9) >>= fun r10 =>
    (if r10 = true then f_laws_eqAltS_L0 (x.1, x.2.1, (IntKind.i64.wrap (x.2.2 + 1))) else
    some (.inl false))))) else
    some (.inr ())) = some out) : ∀ Q : HExit → Env → St → Prop, (∀ v, out = .inr v → ∀ env st sel, Weak 0 sel [] [] env st → Q (.exit 0) env st) → (∀ r, out = .inl r → ∀ env st, RetP [(4, none)] (HV.bool r) env st → Q .ret env st) → SemL P H.laws_eqAltS.ntmps 0 H.laws_eqAltS_l5 [(0, (.sl (List.map Alt.enc x.1))), (1, (.sl (List.map Alt.enc x.2.1))), (5, (.int .i64 x.2.2))] [] Q := by
  obtain ⟨p0, p1, t5_L0⟩ := x
  try dsimp only at h
  intro Q hx hr
  refine SemL.round ?_
  try dsimp only at hx
  refine SemF.seq rfl ?_
  refine SemF.seq rfl ?_
  refine SemF.reg true rfl ?_
  try simp only [gE, ↓gT, ↓reduceIte, reduceCtorEq, reduceAdd, reduceEqDiff, reduceLeDiff, reduceLT]; (repeat intro (_ : _ ≤ lim))
  (repeat intro (_ : _ ≤ lim))
  by_cases hc7 : t5_L0 < ((p0.length : Nat) : Int)
  · rw [if_pos hc7] at h
    refine SemF.cond rfl ?_
    simp only [gE, ↓gT, ↓reduceIte, reduceCtorEq, reduceAdd, reduceEqDiff, reduceLeDiff, reduceLT, eq_true hc7]
    refine SemF.skip rfl ?_
    simp only [gE, ↓gT, ↓reduceIte, reduceCtorEq, reduceAdd, reduceEqDiff, reduceLeDiff, reduceLT, eq_true hc7]
    refine SemF.seq rfl ?_
    refine SemF.block rfl ?_
    refine SemF.seq rfl ?_
    refine SemF.dreg true rfl ?_
    try simp only [gE, ↓gT, ↓reduceIte, reduceCtorEq, reduceAdd, reduceEqDiff, reduceLeDiff, reduceLT, eq_true hc7]; (repeat intro (_ : _ ≤ lim))
    obtain ⟨e8, h_e8, h⟩ := bs h
    have m_e8 := ixm (f := Alt.enc) (ix_get h_e8)
    try simp only [gE, ↓gT, ↓reduceIte, reduceCtorEq, reduceAdd, reduceEqDiff, reduceLeDiff, reduceLT, eq_true hc7, eq_true (ix_nn h_e8), m_e8]; (repeat intro (_ : _ ≤ lim))
    obtain ⟨e9, h_e9, h⟩ := bs h
    have m_e9 := ixm (f := Alt.enc) (ix_get h_e9)
    try simp only [gE, ↓gT, ↓reduceIte, reduceCtorEq, reduceAdd, reduceEqDiff, reduceLeDiff, reduceLT, eq_true hc7, eq_true (ix_nn h_e8), m_e8, eq_true (ix_nn h_e9), m_e9]; (repeat intro (_ : _ ≤ lim))
    obtain ⟨r10, h_r10, h⟩ := bs h
    refine HCp.callE (ih_laws_eqAlt (e8, e9) r10 h_r10) (by simp only [gE, ↓gT, ↓reduceIte, reduceCtorEq, reduceAdd, reduceEqDiff, reduceLeDiff, reduceLT, eq_true hc7, eq_true (ix_nn h_e8), m_e8, eq_true (ix_nn h_e9), m_e9]) (by simp only [scT, esT, and_self, true_and, and_true]) (by simp only [scT, esT, and_self, true_and, and_true]) ?_
    try simp only [gE, ↓gT, ↓reduceIte, reduceCtorEq, reduceAdd, reduceEqDiff, reduceLeDiff, reduceLT, eq_true hc7, eq_true (ix_nn h_e8), m_e8, eq_true (ix_nn h_e9), m_e9]; (repeat intro (_ : _ ≤ lim))
    by_cases hc11 : r10 = true
    · rw [if_pos hc11] at h
      refine SemF.cond rfl ?_
      simp only [gE, ↓gT, ↓reduceIte, reduceCtorEq, reduceAdd, reduceEqDiff, reduceLeDiff, reduceLT, eq_true hc7, eq_true (ix_nn h_e8), m_e8, eq_true (ix_nn h_e9), m_e9, hc11]
      refine SemF.skip rfl ?_
      simp only [gE, ↓gT, ↓reduceIte, reduceCtorEq, reduceAdd, reduceEqDiff, reduceLeDiff, reduceLT, eq_true hc7, eq_true (ix_nn h_e8), m_e8, eq_true (ix_nn h_e9), m_e9, hc11]
      refine SemF.reg true rfl ?_
      try simp only [gE, ↓gT, ↓reduceIte, reduceCtorEq, reduceAdd, reduceEqDiff, reduceLeDiff, reduceLT, eq_true hc7, eq_true (ix_nn h_e8), m_e8, eq_true (ix_nn h_e9), m_e9, hc11]; (repeat intro (_ : _ ≤ lim))
      refine SemL.weak (sel := []) ⟨by simp only [gE, ↓gT, ↓reduceIte, reduceCtorEq, reduceAdd, reduceEqDiff, reduceLeDiff, reduceLT, hwT, selS, erT, eq_true hc7, eq_true (ix_nn h_e8), m_e8, eq_true (ix_nn h_e9), m_e9, hc11], by decide, by decide, by simp only [gE, ↓gT, ↓reduceIte, reduceCtorEq, reduceAdd, reduceEqDiff, reduceLeDiff, reduceLT, hwT, selS, erT, subR, eq_true hc7, eq_true (ix_nn h_e8), m_e8, eq_true (ix_nn h_e9), m_e9, hc11], by simp only [gE, ↓gT, ↓reduceIte, reduceCtorEq, reduceAdd, reduceEqDiff, reduceLeDiff, reduceLT, hwT, selS, erT, scT, esT, eq_true hc7, eq_true (ix_nn h_e8), m_e8, eq_true (ix_nn h_e9), m_e9, hc11], by simp only [gE, ↓gT, ↓reduceIte, reduceCtorEq, reduceAdd, reduceEqDiff, reduceLeDiff, reduceLT, hwT, selS, erT, scT, esT, eq_true hc7, eq_true (ix_nn h_e8), m_e8, eq_true (ix_nn h_e9), m_e9, hc11]⟩ (ih_laws_eqAltS_L0 (p0, p1, (IntKind.i64.wrap (t5_L0 + 1))) out h Q hx hr)
    · rw [if_neg hc11] at h
      replace hc11 := eq_false_of_ne_true hc11
      refine SemF.cond rfl ?_
      simp only [gE, ↓gT, ↓reduceIte, reduceCtorEq, reduceAdd, reduceEqDiff, reduceLeDiff, reduceLT, eq_true hc7, eq_true (ix_nn h_e8), m_e8, eq_true (ix_nn h_e9), m_e9, hc11]
      refine SemF.seq rfl ?_
      refine SemF.reg true rfl ?_
      try simp only [gE, ↓gT, ↓reduceIte, reduceCtorEq, reduceAdd, reduceEqDiff, reduceLeDiff, reduceLT, eq_true hc7, eq_true (ix_nn h_e8), m_e8, eq_true (ix_nn h_e9), m_e9, hc11]; (repeat intro (_ : _ ≤ lim))
      refine SemF.ret rfl ?_
      try simp only [gE, ↓gT, ↓reduceIte, reduceCtorEq, reduceAdd, reduceEqDiff, reduceLeDiff, reduceLT, eq_true hc7, eq_true (ix_nn h_e8), m_e8, eq_true (ix_nn h_e9), m_e9, hc11]; (repeat intro (_ : _ ≤ lim))
      obtain rfl := Option.some.inj h
      refine hr _ rfl _ _ ?_
      simp only [gE, ↓gT, ↓reduceIte, reduceCtorEq, reduceAdd, reduceEqDiff, reduceLeDiff, reduceLT, RetP_def, eq_true hc7, eq_true (ix_nn h_e8), m_e8, eq_true (ix_nn h_e9), m_e9, hc11]
  · rw [if_neg hc7] at h
    refine SemF.cond rfl ?_
    simp only [gE, ↓gT, ↓reduceIte, reduceCtorEq, reduceAdd, reduceEqDiff, reduceLeDiff, reduceLT, eq_false hc7]
    refine SemF.exit rfl ?_
    simp only [gE, ↓gT, ↓reduceIte, reduceCtorEq, reduceAdd, reduceEqDiff, reduceLeDiff, reduceLT, eq_false hc7]
    obtain rfl := Option.some.inj h
    refine hx _ rfl _ _ [] ⟨by simp only [gE, ↓gT, ↓reduceIte, reduceCtorEq, reduceAdd, reduceEqDiff, reduceLeDiff, reduceLT, hwT, selS, erT, eq_false hc7], by decide, by decide, by simp only [gE, ↓gT, ↓reduceIte, reduceCtorEq, reduceAdd, reduceEqDiff, reduceLeDiff, reduceLT, hwT, selS, erT, subR, eq_false hc7], by simp only [gE, ↓gT, ↓reduceIte, reduceCtorEq, reduceAdd, reduceEqDiff, reduceLeDiff, reduceLT, hwT, selS, erT, scT, esT, eq_false hc7], by simp only [gE, ↓gT, ↓reduceIte, reduceCtorEq, reduceAdd, reduceEqDiff, reduceLeDiff, reduceLT, hwT, selS, erT, scT, esT, eq_false hc7]⟩
theorem laws_eqDecS_step (f_laws_eqDecS_L0 : ((List Dec) × (List Dec) × Int) → Option (Sum Bool Unit)) (ih_laws_eqDecS_L0 : ∀ (x : ((List Dec) × (List Dec) × Int)) (out : (Sum Bool Unit)), f_laws_eqDecS_L0 x = some out → ∀ Q : HExit → Env → St → Prop, (∀ v, out = .inr v → ∀ env st sel, Weak 0 sel [] [] env st → Q (.exit 0) env st) → (∀ r, out = .inl r → ∀ env st, RetP [(4, none)] (HV.bool r) env st → Q .ret env st) → SemL P H.laws_eqDecS.ntmps 0 H.laws_eqDecS_l5 [(0, (.sl (List.map Dec.enc x.1))), (1, (.sl (List.map Dec.enc x.2.1))), (5, (.int .i64 x.2.2))] [] Q) (x : ((List Dec) × (List Dec))) (r : Bool) (h : (if ((x.1.length : Nat) : Int) = ((x.2.length : Nat) : Int) then (f_laws_eqDecS_L0 (x.1, x.2, 0) >>= fun s12 =>
    (match s12 with
    | .inl r13 => some r13
    | .inr v14 => some true)) else
    some false) = some r) : HCp P F.laws_eqDecS [(.sl (List.map Dec.enc x.1)), (.sl (List.map Dec.enc x.2))] (HV.bool r) := by
  obtain ⟨p0, p1⟩ := x
  try dsimp only at h
  refine HCp.mkF S.laws_eqDecS (by simp [H.laws_eqDecS]) (by simp only [scT, esT, and_self, true_and, and_true]) ?_
  simp only [gE, ↓gT, ↓reduceIte, reduceCtorEq, reduceAdd, reduceEqDiff, reduceLeDiff, reduceLT, H.laws_eqDecS]
  refine SemF.seq rfl ?_
  refine SemF.reg true rfl ?_
  try simp only [gE, ↓gT, ↓reduceIte, reduceCtorEq, reduceAdd, reduceEqDiff, reduceLeDiff, reduceLT]; (repeat intro (_ : _ ≤ lim))
  refine SemF.seq rfl ?_
  refine SemF.seq rfl ?_
  refine SemF.reg true rfl ?_
  try simp only [gE, ↓gT, ↓reduceIte, reduceCtorEq, reduceAdd, reduceEqDiff, reduceLeDiff, reduceLT]; (repeat intro (_ : _ ≤ lim))
  (repeat intro (_ : _ ≤ lim))
  (repeat intro (_ : _ ≤ lim))
  by_cases hc1 : ((p0.length : Nat) : Int) = ((p1.length : Nat) : Int)
  · rw [if_pos hc1] at h
    refine SemF.cond rfl ?_
    simp only [gE, ↓gT, ↓reduceIte, reduceCtorEq, reduceAdd, reduceEqDiff, reduceLeDiff, reduceLT, eq_true hc1]
    refine SemF.skip rfl ?_
    simp only [gE, ↓gT, ↓reduceIte, reduceCtorEq, reduceAdd, reduceEqDiff, reduceLeDiff, reduceLT, eq_true hc1]
    refine SemF.seq rfl ?_
    refine SemF.seq rfl ?_
    refine SemF.reg true rfl ?_
    try simp only [gE, ↓gT, ↓reduceIte, reduceCtorEq, reduceAdd, reduceEqDiff, reduceLeDiff, reduceLT, eq_true hc1]; (repeat intro (_ : _ ≤ lim))
    refine SemF.block rfl ?_
    obtain ⟨s12, h_s12, h⟩ := bs h
    rcases s12 with r13 | v14
    · dsimp only at h
      refine SemF.loop rfl ?_
      refine SemL.weak (sel := []) ⟨by simp only [gE, ↓gT, ↓reduceIte, reduceCtorEq, reduceAdd, reduceEqDiff, reduceLeDiff, reduceLT, hwT, selS, erT, eq_true hc1], by decide, by decide, by simp only [gE, ↓gT, ↓reduceIte, reduceCtorEq, reduceAdd, reduceEqDiff, reduceLeDiff, reduceLT, hwT, selS, erT, subR, eq_true hc1], by simp only [gE, ↓gT, ↓reduceIte, reduceCtorEq, reduceAdd, reduceEqDiff, reduceLeDiff, reduceLT, hwT, selS, erT, scT, esT, eq_true hc1], by simp only [gE, ↓gT, ↓reduceIte, reduceCtorEq, reduceAdd, reduceEqDiff, reduceLeDiff, reduceLT, hwT, selS, erT, scT, esT, eq_true hc1]⟩ (ih_laws_eqDecS_L0 (p0, p1, 0) (.inl r13) h_s12 _ ?_ ?_)
      · intro v hv; cases hv
      · intro r' hr' env st hy
        cases hr'
        simp only [gE, ↓gT, ↓reduceIte, reduceCtorEq, reduceAdd, reduceEqDiff, reduceLeDiff, reduceLT]
        obtain rfl := Option.some.inj h
        exact hy
    · dsimp only at h
      refine SemF.loop rfl ?_
      refine SemL.weak (sel := []) ⟨by simp only [gE, ↓gT, ↓reduceIte, reduceCtorEq, reduceAdd, reduceEqDiff, reduceLeDiff, reduceLT, hwT, selS, erT, eq_true hc1], by decide, by decide, by simp only [gE, ↓gT, ↓reduceIte, reduceCtorEq, reduceAdd, reduceEqDiff, reduceLeDiff, reduceLT, hwT, selS, erT, subR, eq_true hc1], by simp only [gE, ↓gT, ↓reduceIte, reduceCtorEq, reduceAdd, reduceEqDiff, reduceLeDiff, reduceLT, hwT, selS, erT, scT, esT, eq_true hc1], by simp only [gE, ↓gT, ↓reduceIte, reduceCtorEq, reduceAdd, reduceEqDiff, reduceLeDiff, reduceLT, hwT, selS, erT, scT, esT, eq_true hc1]⟩ (ih_laws_eqDecS_L0 (p0, p1, 0) (.inr v14) h_s12 _ ?_ ?_)
      rotate_left
      · intro r' hr'; cases hr'
      intro v hv env st sel hw
      cases hv
      simp only [gE, ↓gT, ↓reduceIte, reduceCtorEq, reduceAdd, reduceEqDiff, reduceLeDiff, reduceLT]
      first | refine SemF.weak hw ?_ | refine SemL.weak hw ?_
      refine SemF.seq rfl ?_
      refine SemF.reg true rfl ?_
      try simp only [gE, ↓gT, ↓reduceIte, reduceCtorEq, reduceAdd, reduceEqDiff, reduceLeDiff, reduceLT, eq_true hc1]; (repeat intro (_ : _ ≤ lim))
      refine SemF.ret rfl ?_
      try simp only [gE, ↓gT, ↓reduceIte, reduceCtorEq, reduceAdd, reduceEqDiff, reduceLeDiff, reduceLT, eq_true hc1]; (repeat intro (_ : _ ≤ lim))
      obtain rfl := Option.some.inj h
      simp only [gE, ↓gT, ↓reduceIte, reduceCtorEq, reduceAdd, reduceEqDiff, reduceLeDiff, reduceLT, RetP_def, eq_true hc1]
  · rw [if_neg hc1] at h
    refine SemF.cond rfl ?_
    simp only [gE, ↓gT, ↓reduceIte, reduceCtorEq, reduceAdd, reduceEqDiff, reduceLeDiff, reduceLT, eq_false hc1]
    refine SemF.seq rfl ?_
    refine SemF.reg true rfl ?_
    try simp only [gE, ↓gT, ↓reduceIte, reduceCtorEq, reduceAdd, reduceEqDiff, reduceLeDiff, reduceLT, eq_false hc1]; (repeat intro (_ : _ ≤ lim))
    refine SemF.ret rfl ?_
    try simp only [gE, ↓gT, ↓reduceIte, reduceCtorEq, reduceAdd, reduceEqDiff, reduceLeDiff, reduceLT, eq_false hc1]; (repeat intro (_ : _ ≤ lim))
    obtain rfl := Option.some.inj h
    simp only [gE, ↓gT, ↓reduceIte, reduceCtorEq, reduceAdd, reduceEqDiff, reduceLeDiff, reduceLT, RetP_def, eq_false hc1]
theorem laws_eqDecS_L0_step (f_laws_eqDecS_L0 : ((List Dec) × (List Dec) × Int) → Option (Sum Bool Unit)) (f_laws_eqDec : (Dec × Dec) → Option Bool) (ih_laws_eqDecS_L0 : ∀ (x : ((List Dec) × (List Dec) × Int)) (out : (Sum Bool Unit)), f_laws_eqDecS_L0 x = some out → ∀ Q : HExit → Env → St → Prop, (∀ v, out = .inr v → ∀ env st sel, Weak 0 sel [] [] env st → Q (.exit 0) env st) → (∀ r, out = .inl r → ∀ env st, RetP [(4, none)] (HV.bool r) env st → Q .ret env st) → SemL P H.laws_eqDecS.ntmps 0 H.laws_eqDecS_l5 [(0, (.sl (List.map Dec.enc x.1))), (1, (.sl (List.map Dec.enc x.2.1))), (5, (.int .i64 x.2.2))] [] Q) (ih_laws_eqDec : ∀ (x : (Dec × Dec)) (r : Bool), f_laws_eqDec x = some r → HCp P F.laws_eqDec [(Dec.enc x.1), (Dec.enc x.2)] (HV.bool r)) (x : ((List Dec) × (List Dec) × Int)) (out : (Sum Bool Unit)) (h : (if x.2.2 < ((x.1.length : Nat) : Int) then (ix x.1 x.2.2 >>= fun e8 =>
    (ix x.2.1 x.2.2 >>= fun e9 =>
    (f_laws_eqDec (e8, e9) >>= fun r10 =>
    (if r10 = true then f_laws_eqDecS_L0 (x.1, x.2.1, (IntKind.i64.wrap (x.2.2 + 1))) else
    some (.inl false))))) else
    some (.inr ())) = some out) : ∀ Q : HExit → Env → St → Prop, (∀ v, out = .inr v → ∀ env st sel, Weak 0 sel [] [] env st → Q (.exit 0) env st) → (∀ r, out = .inl r → ∀ env st, RetP [(4, none)] (HV.bool r) env st → Q .ret env st) → SemL P H.laws_eqDecS.ntmps 0 H.laws_eqDecS_l5 [(0, (.sl (List.map Dec.enc x.1))), (1, (.sl (List.map Dec.enc x.2.1))), (5, (.int .i64 x.2.2))] [] Q := by
  obtain ⟨p0, p1, t5_L0⟩ := x
  try dsimp only at h
  intro Q hx hr
  refine SemL.round ?_
  try dsimp only at hx
  refine SemF.seq rfl ?_
  refine SemF.seq rfl ?_
  refine SemF.reg true rfl ?_
  try simp only [gE, ↓gT, ↓reduceIte, reduceCtorEq, reduceAdd, reduceEqDiff, reduceLeDiff, reduceLT]; (repeat intro (_ : _ ≤ lim))
  (repeat intro (_ : _ ≤ lim))
  by_cases hc7 : t5_L0 < ((p0.length : Nat) : Int)
  · rw [if_pos hc7] at h
    refine SemF.cond rfl ?_
    simp only [gE, ↓gT, ↓reduceIte, reduceCtorEq, reduceAdd, reduceEqDiff, reduceLeDiff, reduceLT, eq_true hc7]
    refine SemF.skip rfl ?_
    simp only [gE, ↓gT, ↓reduceIte, reduceCtorEq, reduceAdd, reduceEqDiff, reduceLeDiff, reduceLT, eq_true hc7]
    refine SemF.seq rfl ?_
    refine SemF.block rfl ?_
    refine SemF.seq rfl ?_
    refine SemF.dreg true rfl ?_
    try simp only [gE, ↓gT, ↓reduceIte, reduceCtorEq, reduceAdd, reduceEqDiff, reduceLeDiff, reduceLT, eq_true hc7]; (repeat intro (_ : _ ≤ lim))
    obtain ⟨e8, h_e8, h⟩ := bs h
    have m_e8 := ixm (f := Dec.enc) (ix_get h_e8)
    try simp only [gE, ↓gT, ↓reduceIte, reduceCtorEq, reduceAdd, reduceEqDiff, reduceLeDiff, reduceLT, eq_true hc7, eq_true (ix_nn h_e8), m_e8]; (repeat intro (_ : _ ≤ lim))
    obtain ⟨e9, h_e9, h⟩ := bs h
    have m_e9 := ixm (f := Dec.enc) (ix_get h_e9)
    try simp only [gE, ↓gT, ↓reduceIte, reduceCtorEq, reduceAdd, reduceEqDiff, reduceLeDiff, reduceLT, eq_true hc7, eq_true (ix_nn h_e8), m_e8, eq_true (ix_nn h_e9), m_e9]; (repeat intro (_ : _ ≤ lim))
    obtain ⟨r10, h_r10, h⟩ := bs h
    refine HCp.callE (ih_laws_eqDec (e8, e9) r10 h_r10) (by simp only [gE, ↓gT, ↓reduceIte, reduceCtorEq, reduceAdd, reduceEqDiff, reduceLeDiff, reduceLT, eq_true hc7, eq_true (ix_nn h_e8), m_e8, eq_true (ix_nn h_e9), m_e9]) (by simp only [scT, esT, and_self, true_and, and_true]) (by simp only [scT, esT, and_self, true_and, and_true]) ?_
    try simp only [gE, ↓gT, ↓reduceIte, reduceCtorEq, reduceAdd, reduceEqDiff, reduceLeDiff, reduceLT, eq_true hc7, eq_true (ix_nn h_e8), m_e8, eq_true (ix_nn h_e9), m_e9]; (repeat intro (_ : _ ≤ lim))
    by_cases hc11 : r10 = true
    · rw [if_pos hc11] at h
      refine SemF.cond rfl ?_
      simp only [gE, ↓gT, ↓reduceIte, reduceCtorEq, reduceAdd, reduceEqDiff, reduceLeDiff, reduceLT, eq_true hc7, eq_true (ix_nn h_e8), m_e8, eq_true (ix_nn h_e9), m_e9, hc11]
      refine SemF.skip rfl ?_
      simp only [gE, ↓gT, ↓reduceIte, reduceCtorEq, reduceAdd, reduceEqDiff, reduceLeDiff, reduceLT, eq_true hc7, eq_true (ix_nn h_e8), m_e8, eq_true (ix_nn h_e9), m_e9, hc11]
      refine SemF.reg true rfl ?_
      try simp only [gE, ↓gT, ↓reduceIte, reduceCtorEq, reduceAdd, reduceEqDiff, reduceLeDiff, reduceLT, eq_true hc7, eq_true (ix_nn h_e8), m_e8, eq_true (ix_nn h_e9), m_e9, hc11]; (repeat intro (_ : _ ≤ lim))
      refine SemL.weak (sel := []) ⟨by simp only [gE, ↓gT, ↓reduceIte, reduceCtorEq, reduceAdd, reduceEqDiff, reduceLeDiff, reduceLT, hwT, selS, erT, eq_true hc7, eq_true (ix_nn h_e8), m_e8, eq_true (ix_nn h_e9), m_e9, hc11], by decide, by decide, by simp only [gE, ↓gT, ↓reduceIte, reduceCtorEq, reduceAdd, reduceEqDiff, reduceLeDiff, reduceLT, hwT, selS, erT, subR, eq_true hc7, eq_true (ix_nn h_e8), m_e8, eq_true (ix_nn h_e9), m_e9, hc11], by simp only [gE, ↓gT, ↓reduceIte, reduceCtorEq, reduceAdd, reduceEqDiff, reduceLeDiff, reduceLT, hwT, selS, erT, scT, esT, eq_true hc7, eq_true (ix_nn h_e8), m_e8, eq_true (ix_nn h_e9), m_e9, hc11], by simp only [gE, ↓gT, ↓reduceIte, reduceCtorEq, reduceAdd, reduceEqDiff, reduceLeDiff, reduceLT, hwT, selS, erT, scT, esT, eq_true hc7, eq_true (ix_nn h_e8), m_e8, eq_true (ix_nn h_e9), m_e9, hc11]⟩ (ih_laws_eqDecS_L0 (p0, p1, (IntKind.i64.wrap (t5_L0 + 1))) out h Q hx hr)
    · rw [if_neg hc11] at h
      replace hc11 := eq_false_of_ne_true hc11
      refine SemF.cond rfl ?_
      simp only [gE, ↓gT, ↓reduceIte, reduceCtorEq, reduceAdd, reduceEqDiff, reduceLeDiff, reduceLT, eq_true hc7, eq_true (ix_nn h_e8), m_e8, eq_true (ix_nn h_e9), m_e9, hc11]
      refine SemF.seq rfl ?_
      refine SemF.reg true rfl ?_
      try simp only [gE, ↓gT, ↓reduceIte, reduceCtorEq, reduceAdd, reduceEqDiff, reduceLeDiff, reduceLT, eq_true hc7, eq_true (ix_nn h_e8), m_e8, eq_true (ix_nn h_e9), m_e9, hc11]; (repeat intro (_ : _ ≤ lim))
      refine SemF.ret rfl ?_
      try simp only [gE, ↓gT, ↓reduceIte, reduceCtorEq, reduceAdd, reduceEqDiff, reduceLeDiff, reduceLT, eq_true hc7, eq_true (ix_nn h_e8), m_e8, eq_true (ix_nn h_e9), m_e9, hc11]; (repeat intro (_ : _ ≤ lim))
      obtain rfl := Option.some.inj h
      refine hr _ rfl _ _ ?_
      simp only [gE, ↓gT, ↓reduceIte, reduceCtorEq, reduceAdd, reduceEqDiff, reduceLeDiff, reduceLT, RetP_def, eq_true hc7, eq_true (ix_nn h_e8), m_e8, eq_true (ix_nn h_e9), m_e9, hc11]
  · rw [if_neg hc7] at h
    refine SemF.cond rfl ?_
    simp only [gE, ↓gT, ↓reduceIte, reduceCtorEq, reduceAdd, reduceEqDiff, reduceLeDiff, reduceLT, eq_false hc7]
    refine SemF.exit rfl ?_
    simp only [gE, ↓gT, ↓reduceIte, reduceCtorEq, reduceAdd, reduceEqDiff, reduceLeDiff, reduceLT, eq_false hc7]
    obtain rfl := Option.some.inj h
    refine hx _ rfl _ _ [] ⟨by simp only [gE, ↓gT, ↓reduceIte, reduceCtorEq, reduceAdd, reduceEqDiff, reduceLeDiff, reduceLT, hwT, selS, erT, eq_false hc7], by decide, by decide, by simp only [gE, ↓gT, ↓reduceIte, reduceCtorEq, reduceAdd, reduceEqDiff, reduceLeDiff, reduceLT, hwT, selS, erT, subR, eq_false hc7], by simp only [gE, ↓gT, ↓reduceIte, reduceCtorEq, reduceAdd, reduceEqDiff, reduceLeDiff, reduceLT, hwT, selS, erT, scT, esT, eq_false hc7], by simp only [gE, ↓gT, ↓reduceIte, reduceCtorEq, reduceAdd, reduceEqDiff, reduceLeDiff, reduceLT, hwT, selS, erT, scT, esT, eq_false hc7]⟩
theorem laws_eqDec_step (f_laws_eqExp : (Exp × Exp) → Option Bool) (f_laws_eqDecS : ((List Dec) × (List Dec)) → Option Bool) (ih_laws_eqExp : ∀ (x : (Exp × Exp)) (r : Bool), f_laws_eqExp x = some r → HCp P F.laws_eqExp [(Exp.enc x.1), (Exp.enc x.2)] (HV.bool r)) (ih_laws_eqDecS : ∀ (x : ((List Dec) × (List Dec))) (r : Bool), f_laws_eqDecS x = some r → HCp P F.laws_eqDecS [(.sl (List.map Dec.enc x.1)), (.sl (List.map Dec.enc x.2))] (HV.bool r)) (x : (Dec × Dec)) (r : Bool) (h : (if x.1.Name = x.2.Name then (M.laws_eqStringS (x.1.Pars, x.2.Pars) >>= fun r2 =>
    (if r2 = true then (f_laws_eqExp (x.1.E, x.2.E) >>= fun r4 =>
    (if r4 = true then (f_laws_eqDecS (x.1.Where, x.2.Where) >>= fun r6 =>
    (if r6 = true then some true else
    some false)) else
    some false)) else
    some false)) else
    some false) = some r) : HCp P F.laws_eqDec [(Dec.enc x.1), (Dec.enc x.2)] (HV.bool r) := by
  obtain ⟨p0, p1⟩ := x
  try dsimp only at h
  refine HCp.mkF S.laws_eqDec (by simp [H.laws_eqDec]) (by simp only [scT, esT, and_self, true_and, and_true]) ?_
  simp only [gE, ↓gT, ↓reduceIte, reduceCtorEq, reduceAdd, reduceEqDiff, reduceLeDiff, reduceLT, H.laws_eqDec]
  refine SemF.seq rfl ?_
  refine SemF.reg true rfl ?_
  try simp only [gE, ↓gT, ↓reduceIte, reduceCtorEq, reduceAdd, reduceEqDiff, reduceLeDiff, reduceLT]; (repeat intro (_ : _ ≤ lim))
  refine SemF.seq rfl ?_
  refine SemF.seq rfl ?_
  refine SemF.reg true rfl ?_
  try simp only [gE, ↓gT, ↓reduceIte, reduceCtorEq, reduceAdd, reduceEqDiff, reduceLeDiff, reduceLT]; (repeat intro (_ : _ ≤ lim))
  by_cases hc1 : p0.Name = p1.Name
  · rw [if_pos hc1] at h
    refine SemF.cond rfl ?_
    simp only [gE, ↓gT, ↓reduceIte, reduceCtorEq, reduceAdd, reduceEqDiff, reduceLeDiff, reduceLT, eq_true hc1]
    refine SemF.skip rfl ?_
    simp only [gE, ↓gT, ↓reduceIte, reduceCtorEq, reduceAdd, reduceEqDiff, reduceLeDiff, reduceLT, eq_true hc1]
    refine SemF.seq rfl ?_
    refine SemF.seq rfl ?_
    refine SemF.reg true rfl ?_
    try simp only [gE, ↓gT, ↓reduceIte, reduceCtorEq, reduceAdd, reduceEqDiff, reduceLeDiff, reduceLT, eq_true hc1]; (repeat intro (_ : _ ≤ lim))
    obtain ⟨r2, h_r2, h⟩ := bs h
    refine HCp.callE (K.laws_eqStringS (p0.Pars, p1.Pars) r2 h_r2) (by simp only [gE, ↓gT, ↓reduceIte, reduceCtorEq, reduceAdd, reduceEqDiff, reduceLeDiff, reduceLT, eq_true hc1]) (by simp only [scT, esT, and_self, true_and, and_true]) (by simp only [scT, esT, and_self, true_and, and_true]) ?_
    try simp only [gE, ↓gT, ↓reduceIte, reduceCtorEq, reduceAdd, reduceEqDiff, reduceLeDiff, reduceLT, eq_true hc1]; (repeat intro (_ : _ ≤ lim))
    by_cases hc3 : r2 = true
    · rw [if_pos hc3] at h
      refine SemF.cond rfl ?_
      simp only [gE, ↓gT, ↓reduceIte, reduceCtorEq, reduceAdd, reduceEqDiff, reduceLeDiff, reduceLT, eq_true hc1, hc3]
      refine SemF.skip rfl ?_
      simp only [gE, ↓gT, ↓reduceIte, reduceCtorEq, reduceAdd, reduceEqDiff, reduceLeDiff, reduceLT, eq_true hc1, hc3]
      refine SemF.seq rfl ?_
      refine SemF.seq rfl ?_
      refine SemF.reg true rfl ?_
      try simp only [gE, ↓gT, ↓reduceIte, reduceCtorEq, reduceAdd, reduceEqDiff, reduceLeDiff, reduceLT, eq_true hc1, hc3]; (repeat intro (_ : _ ≤ lim))
      obtain ⟨r4, h_r4, h⟩ := bs h
      refine HCp.callE (ih_laws_eqExp (p0.E, p1.E) r4 h_r4) (by simp only [gE, ↓gT, ↓reduceIte, reduceCtorEq, reduceAdd, reduceEqDiff, reduceLeDiff, reduceLT, eq_true hc1, hc3]) (by simp only [scT, esT, and_self, true_and, and_true]) (by simp only [scT, esT, and_self, true_and, and_true]) ?_
      try simp only [gE, ↓gT, ↓reduceIte, reduceCtorEq, reduceAdd, reduceEqDiff, reduceLeDiff, reduceLT, eq_true hc1, hc3]; (repeat intro (_ : _ ≤ lim))
      by_cases hc5 : r4 = true
      · rw [if_pos hc5] at h
        refine SemF.cond rfl ?_
        simp only [gE, ↓gT, ↓reduceIte, reduceCtorEq, reduceAdd, reduceEqDiff, reduceLeDiff, reduceLT, eq_true hc1, hc3, hc5]
        refine SemF.skip rfl ?_
        simp only [gE, ↓gT, ↓reduceIte, reduceCtorEq, reduceAdd, reduceEqDiff, reduceLeDiff, reduceLT, eq_true hc1, hc3, hc5]
        refine SemF.seq rfl ?_
        refine SemF.seq rfl ?_
        refine SemF.reg true rfl ?_
        try simp only [gE, ↓gT, ↓reduceIte, reduceCtorEq, reduceAdd, reduceEqDiff, reduceLeDiff, reduceLT, eq_true hc1, hc3, hc5]; (repeat intro (_ : _ ≤ lim))
        obtain ⟨r6, h_r6, h⟩ := bs h
        refine HCp.callE (ih_laws_eqDecS (p0.Where, p1.Where) r6 h_r6) (by simp only [gE, ↓gT, ↓reduceIte, reduceCtorEq, reduceAdd, reduceEqDiff, reduceLeDiff, reduceLT, eq_true hc1, hc3, hc5]) (by simp only [scT, esT, and_self, true_and, and_true]) (by simp only [scT, esT, and_self, true_and, and_true]) ?_
        try simp only [gE, ↓gT, ↓reduceIte, reduceCtorEq, reduceAdd, reduceEqDiff, reduceLeDiff, reduceLT, eq_true hc1, hc3, hc5]; (repeat intro (_ : _ ≤ lim))
        by_cases hc7 : r6 = true
        · rw [if_pos hc7] at h
          refine SemF.cond rfl ?_
          simp only [gE, ↓gT, ↓reduceIte, reduceCtorEq, reduceAdd, reduceEqDiff, reduceLeDiff, reduceLT, eq_true hc1, hc3, hc5, hc7]
          refine SemF.skip rfl ?_
          simp only [gE, ↓gT, ↓reduceIte, reduceCtorEq, reduceAdd, reduceEqDiff, reduceLeDiff, reduceLT, eq_true hc1, hc3, hc5, hc7]
          refine SemF.seq rfl ?_
          refine SemF.reg true rfl ?_
          try simp only [gE, ↓gT, ↓reduceIte, reduceCtorEq, reduceAdd, reduceEqDiff, reduceLeDiff, reduceLT, eq_true hc1, hc3, hc5, hc7]; (repeat intro (_ : _ ≤ lim))
          refine SemF.ret rfl ?_
          try simp only [gE, ↓gT, ↓reduceIte, reduceCtorEq, reduceAdd, reduceEqDiff, reduceLeDiff, reduceLT, eq_true hc1, hc3, hc5, hc7]; (repeat intro (_ : _ ≤ lim))
          obtain rfl := Option.some.inj h
          simp only [gE, ↓gT, ↓reduceIte, reduceCtorEq, reduceAdd, reduceEqDiff, reduceLeDiff, reduceLT, RetP_def, eq_true hc1, hc3, hc5, hc7]
        · rw [if_neg hc7] at h
          replace hc7 := eq_false_of_ne_true hc7
          refine SemF.cond rfl ?_
          simp only [gE, ↓gT, ↓reduceIte, reduceCtorEq, reduceAdd, reduceEqDiff, reduceLeDiff, reduceLT, eq_true hc1, hc3, hc5, hc7]
          refine SemF.seq rfl ?_
          refine SemF.reg true rfl ?_
          try simp only [gE, ↓gT, ↓reduceIte, reduceCtorEq, reduceAdd, reduceEqDiff, reduceLeDiff, reduceLT, eq_true hc1, hc3, hc5, hc7]; (repeat intro (_ : _ ≤ lim))
          refine SemF.ret rfl ?_
          try simp only [gE, ↓gT, ↓reduceIte, reduceCtorEq, reduceAdd, reduceEqDiff, reduceLeDiff, reduceLT, eq_true hc1, hc3, hc5, hc7]; (repeat intro (_ : _ ≤ lim))
          obtain rfl := Option.some.inj h
          simp only [gE, ↓gT, ↓reduceIte, reduceCtorEq, reduceAdd, reduceEqDiff, reduceLeDiff, reduceLT, RetP_def, eq_true hc1, hc3, hc5, hc7]
      · rw [if_neg hc5] at h
        replace hc5 := eq_false_of_ne_true hc5
        refine SemF.cond rfl ?_
        simp only [gE, ↓gT, ↓reduceIte, reduceCtorEq, reduceAdd, reduceEqDiff, reduceLeDiff, reduceLT, eq_true hc1, hc3, hc5]
        refine SemF.seq rfl ?_
        refine SemF.reg true rfl ?_
        try simp only [gE, ↓gT, ↓reduceIte, reduceCtorEq, reduceAdd, reduceEqDiff, reduceLeDiff, reduceLT, eq_true hc1, hc3, hc5]; (repeat intro (_ : _ ≤ lim))
        refine SemF.ret rfl ?_
        try simp only [gE, ↓gT, ↓reduceIte, reduceCtorEq, reduceAdd, reduceEqDiff, reduceLeDiff, reduceLT, eq_true hc1, hc3, hc5]; (repeat intro (_ : _ ≤ lim))
        obtain rfl := Option.some.inj h
        simp only [gE, ↓gT, ↓reduceIte, reduceCtorEq, reduceAdd, reduceEqDiff, reduceLeDiff, reduceLT, RetP_def, eq_true hc1, hc3, hc5]
    · rw [if_neg hc3] at h
      replace hc3 := eq_false_of_ne_true hc3
      refine SemF.cond rfl ?_
      simp only [gE, ↓gT, ↓reduceIte, reduceCtorEq, reduceAdd, reduceEqDiff, reduceLeDiff, reduceLT, eq_true hc1, hc3]
      refine SemF.seq rfl ?_
      refine SemF.reg true rfl ?_
      try simp only [gE, ↓gT, ↓reduceIte, reduceCtorEq, reduceAdd, reduceEqDiff, reduceLeDiff, reduceLT, eq_true hc1, hc3]; (repeat intro (_ : _ ≤ lim))
      refine SemF.ret rfl ?_
      try simp only [gE, ↓gT, ↓reduceIte, reduceCtorEq, reduceAdd, reduceEqDiff, reduceLeDiff, reduceLT, eq_true hc1, hc3]; (repeat intro (_ : _ ≤ lim))
      obtain rfl := Option.some.inj h
      simp only [gE, ↓gT, ↓reduceIte, reduceCtorEq, reduceAdd, reduceEqDiff, reduceLeDiff, reduceLT, RetP_def, eq_true hc1, hc3]
  · rw [if_neg hc1] at h
    refine SemF.cond rfl ?_
    simp only [gE, ↓gT, ↓reduceIte, reduceCtorEq, reduceAdd, reduceEqDiff, reduceLeDiff, reduceLT, eq_false hc1]
    refine SemF.seq rfl ?_
    refine SemF.reg true rfl ?_
    try simp only [gE, ↓gT, ↓reduceIte, reduceCtorEq, reduceAdd, reduceEqDiff, reduceLeDiff, reduceLT, eq_false hc1]; (repeat intro (_ : _ ≤ lim))
    refine SemF.ret rfl ?_
    try simp only [gE, ↓gT, ↓reduceIte, reduceCtorEq, reduceAdd, reduceEqDiff, reduceLeDiff, reduceLT, eq_false hc1]; (repeat intro (_ : _ ≤ lim))
    obtain rfl := Option.some.inj h
    simp only [gE, ↓gT, ↓reduceIte, reduceCtorEq, reduceAdd, reduceEqDiff, reduceLeDiff, reduceLT, RetP_def, eq_false hc1]
theorem laws_eqExpS_step (f_laws_eqExpS_L0 : ((List Exp) × (List Exp) × Int) → Option (Sum Bool Unit)) (ih_laws_eqExpS_L0 : ∀ (x : ((List Exp) × (List Exp) × Int)) (out : (Sum Bool Unit)), f_laws_eqExpS_L0 x = some out → ∀ Q : HExit → Env → St → Prop, (∀ v, out = .inr v → ∀ env st sel, Weak 0 sel [] [] env st → Q (.exit 0) env st) → (∀ r, out = .inl r → ∀ env st, RetP [(4, none)] (HV.bool r) env st → Q .ret env st) → SemL P H.laws_eqExpS.ntmps 0 H.laws_eqExpS_l5 [(0, (.sl (List.map Exp.enc x.1))), (1, (.sl (List.map Exp.enc x.2.1))), (5, (.int .i64 x.2.2))] [] Q) (x : ((List Exp) × (List Exp))) (r : Bool) (h : (if ((x.1.length : Nat) : Int) = ((x.2.length : Nat) : Int) then (f_laws_eqExpS_L0 (x.1, x.2, 0) >>= fun s12 =>
    (match s12 with
    | .inl r13 => some r13
    | .inr v14 => some true)) else
    some false) = some r) : HCp P F.laws_eqExpS [(.sl (List.map Exp.enc x.1)), (.sl (List.map Exp.enc x.2))] (HV.bool r) := by
  obtain ⟨p0, p1⟩ := x
  try dsimp only at h
  refine HCp.mkF S.laws_eqExpS (by simp [H.laws_eqExpS]) (by simp only [scT, esT, and_self, true_and, and_true]) ?_
  simp only [gE, ↓gT, ↓reduceIte, reduceCtorEq, reduceAdd, reduceEqDiff, reduceLeDiff, reduceLT, H.laws_eqExpS]
  refine SemF.seq rfl ?_
  refine SemF.reg true rfl ?_
  try simp only [gE, ↓gT, ↓reduceIte, reduceCtorEq, reduceAdd, reduceEqDiff, reduceLeDiff, reduceLT]; (repeat intro (_ : _ ≤ lim))
  refine SemF.seq rfl ?_
  refine SemF.seq rfl ?_
  refine SemF.reg true rfl ?_
  try simp only [gE, ↓gT, ↓reduceIte, reduceCtorEq, reduceAdd, reduceEqDiff, reduceLeDiff, reduceLT]; (repeat intro (_ : _ ≤ lim))
  (repeat intro (_ : _ ≤ lim))
  (repeat intro (_ : _ ≤ lim))
  by_cases hc1 : ((p0.length : Nat) : Int) = ((p1.length : Nat) : Int)
  · rw [if_pos hc1] at h
    refine SemF.cond rfl ?_
    simp only [gE, ↓gT, ↓reduceIte, reduceCtorEq, reduceAdd, reduceEqDiff, reduceLeDiff, reduceLT, eq_true hc1]
    refine SemF.skip rfl ?_
    simp only [gE, ↓gT, ↓reduceIte, reduceCtorEq, reduceAdd, reduceEqDiff, reduceLeDiff, reduceLT, eq_true hc1]
    refine SemF.seq rfl ?_
    refine SemF.seq rfl ?_
    refine SemF.reg true rfl ?_
    try simp only [gE, ↓gT, ↓reduceIte, reduceCtorEq, reduceAdd, reduceEqDiff, reduceLeDiff, reduceLT, eq_true hc1]; (repeat intro (_ : _ ≤ lim))
    refine SemF.block rfl ?_
    obtain ⟨s12, h_s12, h⟩ := bs h
    rcases s12 with r13 | v14
    · dsimp only at h
      refine SemF.loop rfl ?_
      refine SemL.weak (sel := []) ⟨by simp only [gE, ↓gT, ↓reduceIte, reduceCtorEq, reduceAdd, reduceEqDiff, reduceLeDiff, reduceLT, hwT, selS, erT, eq_true hc1], by decide, by decide, by simp only [gE, ↓gT, ↓reduceIte, reduceCtorEq, reduceAdd, reduceEqDiff, reduceLeDiff, reduceLT, hwT, selS, erT, subR, eq_true hc1], by simp only [gE, ↓gT, ↓reduceIte, reduceCtorEq, reduceAdd, reduceEqDiff, reduceLeDiff, reduceLT, hwT, selS, erT, scT, esT, eq_true hc1], by simp only [gE, ↓gT, ↓reduceIte, reduceCtorEq, reduceAdd, reduceEqDiff, reduceLeDiff, reduceLT, hwT, selS, erT, scT, esT, eq_true hc1]⟩ (ih_laws_eqExpS_L0 (p0, p1, 0) (.inl r13) h_s12 _ ?_ ?_)
      · intro v hv; cases hv
      · intro r' hr' env st hy
        cases hr'
        simp only [gE, ↓gT, ↓reduceIte, reduceCtorEq, reduceAdd, reduceEqDiff, reduceLeDiff, reduceLT]
        obtain rfl := Option.some.inj h
        exact hy
    · dsimp only at h
      refine SemF.loop rfl ?_
      refine SemL.weak (sel := []) ⟨by simp only [gE, ↓gT, ↓reduceIte, reduceCtorEq, reduceAdd, reduceEqDiff, reduceLeDiff, reduceLT, hwT, selS, erT, eq_true hc1], by decide, by decide, by simp only [gE, ↓gT, ↓reduceIte, reduceCtorEq, reduceAdd, reduceEqDiff, reduceLeDiff, reduceLT, hwT, selS, erT, subR, eq_true hc1], by simp only [gE, ↓gT, ↓reduceIte, reduceCtorEq, reduceAdd, reduceEqDiff, reduceLeDiff, reduceLT, hwT, selS, erT, scT, esT, eq_true hc1], by simp only [gE, ↓gT, ↓reduceIte, reduceCtorEq, reduceAdd, reduceEqDiff, reduceLeDiff, reduceLT, hwT, selS, erT, scT, esT, eq_true hc1]⟩ (ih_laws_eqExpS_L0 (p0, p1, 0) (.inr v14) h_s12 _ ?_ ?_)
      rotate_left
      · intro r' hr'; cases hr'
      intro v hv env st sel hw
      cases hv
      simp only [gE, ↓gT, ↓reduceIte, reduceCtorEq, reduceAdd, reduceEqDiff, reduceLeDiff, reduceLT]
      first | refine SemF.weak hw ?_ | refine SemL.weak hw ?_
      refine SemF.seq rfl ?_
      refine SemF.reg true rfl ?_
      try simp only [gE, ↓gT, ↓reduceIte, reduceCtorEq, reduceAdd, reduceEqDiff, reduceLeDiff, reduceLT, eq_true hc1]; (repeat intro (_ : _ ≤ lim))
      refine SemF.ret rfl ?_
      try simp only [gE, ↓gT, ↓reduceIte, reduceCtorEq, reduceAdd, reduceEqDiff, reduceLeDiff, reduceLT, eq_true hc1]; (repeat intro (_ : _ ≤ lim))
      obtain rfl := Option.some.inj h
      simp only [gE, ↓gT, ↓reduceIte, reduceCtorEq, reduceAdd, reduceEqDiff, reduceLeDiff, reduceLT, RetP_def, eq_true hc1]
  · rw [if_neg hc1] at h
    refine SemF.cond rfl ?_
    simp only [gE, ↓gT, ↓reduceIte, reduceCtorEq, reduceAdd, reduceEqDiff, reduceLeDiff, reduceLT, eq_false hc1]
    refine SemF.seq rfl ?_
    refine SemF.reg true rfl ?_
    try simp only [gE, ↓gT, ↓reduceIte, reduceCtorEq, reduceAdd, reduceEqDiff, reduceLeDiff, reduceLT, eq_false hc1]; (repeat intro (_ : _ ≤ lim))
    refine SemF.ret rfl ?_
    try simp only [gE, ↓gT, ↓reduceIte, reduceCtorEq, reduceAdd, reduceEqDiff, reduceLeDiff, reduceLT, eq_false hc1]; (repeat intro (_ : _ ≤ lim))
    obtain rfl := Option.some.inj h
    simp only [gE, ↓gT, ↓reduceIte, reduceCtorEq, reduceAdd, reduceEqDiff, reduceLeDiff, reduceLT, RetP_def, eq_false hc1]
end K
end W
