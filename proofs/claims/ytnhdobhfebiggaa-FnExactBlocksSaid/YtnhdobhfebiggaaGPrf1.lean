import Derived.Test.YtnhdobhfebiggaaGPrf0
namespace W
set_option linter.unusedSimpArgs false
set_option linter.unusedVariables false
open Go HL S
open Nat (reduceAdd reduceEqDiff reduceLeDiff reduceSub reduceMul reduceLT)
set_option linter.unusedVariables false
set_option maxRecDepth 100000
set_option maxHeartbeats 4000000
namespace K
theorem laws_eqTokS_L0 : ∀ (x : ((List Tok) × (List Tok) × Int)) (out : (Sum Bool Unit)), M.laws_eqTokS_L0 x = some out → ∀ Q : HExit → Env → St → Prop, (∀ v, out = .inr v → ∀ env st sel, Weak 0 sel [] [] env st → Q (.exit 0) env st) → (∀ r, out = .inl r → ∀ env st, RetP [(4, none)] (HV.bool r) env st → Q .ret env st) → SemL P H.laws_eqTokS.ntmps 0 H.laws_eqTokS_l5 [(0, (.sl (List.map Tok.enc x.1))), (1, (.sl (List.map Tok.enc x.2.1))), (5, (.int .i64 x.2.2))] [] Q := by
  refine M.laws_eqTokS_L0.partial_correctness (motive := fun x out => ∀ Q : HExit → Env → St → Prop, (∀ v, out = .inr v → ∀ env st sel, Weak 0 sel [] [] env st → Q (.exit 0) env st) → (∀ r, out = .inl r → ∀ env st, RetP [(4, none)] (HV.bool r) env st → Q .ret env st) → SemL P H.laws_eqTokS.ntmps 0 H.laws_eqTokS_l5 [(0, (.sl (List.map Tok.enc x.1))), (1, (.sl (List.map Tok.enc x.2.1))), (5, (.int .i64 x.2.2))] [] Q) ?_
  intro f_laws_eqTokS_L0 ih_laws_eqTokS_L0 x out h
  obtain ⟨p0, p1, t5_L0⟩ := x
  try dsimp only at h
  intro Q hx hr
  refine SemL.round ?_
  try dsimp only at hx
  refine SemF.seq rfl ?_
  refine SemF.seq rfl ?_
  refine SemF.reg true rfl ?_
  try simp only [gE, ↓gT, ↓reduceIte, reduceCtorEq, reduceAdd, reduceEqDiff, reduceLeDiff, reduceLT]; (repeat intro (_ : _ ≤ lim))
  (repeat intro (_ : _ ≤ lim))
  by_cases hc7 : t5_L0 < ((p0.length : Nat) : Int)
  · rw [if_pos hc7] at h
    refine SemF.cond rfl ?_
    simp only [gE, ↓gT, ↓reduceIte, reduceCtorEq, reduceAdd, reduceEqDiff, reduceLeDiff, reduceLT, eq_true hc7]
    refine SemF.skip rfl ?_
    simp only [gE, ↓gT, ↓reduceIte, reduceCtorEq, reduceAdd, reduceEqDiff, reduceLeDiff, reduceLT, eq_true hc7]
    refine SemF.seq rfl ?_
    refine SemF.block rfl ?_
    refine SemF.seq rfl ?_
    refine SemF.dreg true rfl ?_
    try simp only [gE, ↓gT, ↓reduceIte, reduceCtorEq, reduceAdd, reduceEqDiff, reduceLeDiff, reduceLT, eq_true hc7]; (repeat intro (_ : _ ≤ lim))
    obtain ⟨e8, h_e8, h⟩ := bs h
    have m_e8 := ixm (f := Tok.enc) (ix_get h_e8)
    try simp only [gE, ↓gT, ↓reduceIte, reduceCtorEq, reduceAdd, reduceEqDiff, reduceLeDiff, reduceLT, eq_true hc7, eq_true (ix_nn h_e8), m_e8]; (repeat intro (_ : _ ≤ lim))
    obtain ⟨e9, h_e9, h⟩ := bs h
    have m_e9 := ixm (f := Tok.enc) (ix_get h_e9)
    try simp only [gE, ↓gT, ↓reduceIte, reduceCtorEq, reduceAdd, reduceEqDiff, reduceLeDiff, reduceLT, eq_true hc7, eq_true (ix_nn h_e8), m_e8, eq_true (ix_nn h_e9), m_e9]; (repeat intro (_ : _ ≤ lim))
    obtain ⟨r10, h_r10, h⟩ := bs h
    refine HCp.callE (K.laws_eqTok (e8, e9) r10 h_r10) (by simp only [gE, ↓gT, ↓reduceIte, reduceCtorEq, reduceAdd, reduceEqDiff, reduceLeDiff, reduceLT, eq_true hc7, eq_true (ix_nn h_e8), m_e8, eq_true (ix_nn h_e9), m_e9]) (by simp only [scT, esT, and_self, true_and, and_true]) (by simp only [scT, esT, and_self, true_and, and_true]) ?_
    try simp only [gE, ↓gT, ↓reduceIte, reduceCtorEq, reduceAdd, reduceEqDiff, reduceLeDiff, reduceLT, eq_true hc7, eq_true (ix_nn h_e8), m_e8, eq_true (ix_nn h_e9), m_e9]; (repeat intro (_ : _ ≤ lim))
    by_cases hc11 : r10 = true
    · rw [if_pos hc11] at h
      refine SemF.cond rfl ?_
      simp only [gE, ↓gT, ↓reduceIte, reduceCtorEq, reduceAdd, reduceEqDiff, reduceLeDiff, reduceLT, eq_true hc7, eq_true (ix_nn h_e8), m_e8, eq_true (ix_nn h_e9), m_e9, hc11]
      refine SemF.skip rfl ?_
      simp only [gE, ↓gT, ↓reduceIte, reduceCtorEq, reduceAdd, reduceEqDiff, reduceLeDiff, reduceLT, eq_true hc7, eq_true (ix_nn h_e8), m_e8, eq_true (ix_nn h_e9), m_e9, hc11]
      refine SemF.reg true rfl ?_
      try simp only [gE, ↓gT, ↓reduceIte, reduceCtorEq, reduceAdd, reduceEqDiff, reduceLeDiff, reduceLT, eq_true hc7, eq_true (ix_nn h_e8), m_e8, eq_true (ix_nn h_e9), m_e9, hc11]; (repeat intro (_ : _ ≤ lim))
      refine SemL.weak (sel := []) ⟨by simp only [gE, ↓gT, ↓reduceIte, reduceCtorEq, reduceAdd, reduceEqDiff, reduceLeDiff, reduceLT, hwT, selS, erT, eq_true hc7, eq_true (ix_nn h_e8), m_e8, eq_true (ix_nn h_e9), m_e9, hc11], by decide, by decide, by simp only [gE, ↓gT, ↓reduceIte, reduceCtorEq, reduceAdd, reduceEqDiff, reduceLeDiff, reduceLT, hwT, selS, erT, subR, eq_true hc7, eq_true (ix_nn h_e8), m_e8, eq_true (ix_nn h_e9), m_e9, hc11], by simp only [gE, ↓gT, ↓reduceIte, reduceCtorEq, reduceAdd, reduceEqDiff, reduceLeDiff, reduceLT, hwT, selS, erT, scT, esT, eq_true hc7, eq_true (ix_nn h_e8), m_e8, eq_true (ix_nn h_e9), m_e9, hc11], by simp only [gE, ↓gT, ↓reduceIte, reduceCtorEq, reduceAdd, reduceEqDiff, reduceLeDiff, reduceLT, hwT, selS, erT, scT, esT, eq_true hc7, eq_true (ix_nn h_e8), m_e8, eq_true (ix_nn h_e9), m_e9, hc11]⟩ (ih_laws_eqTokS_L0 (p0, p1, (IntKind.i64.wrap (t5_L0 + 1))) out h Q hx hr)
    · rw [if_neg hc11] at h
      replace hc11 := eq_false_of_ne_true hc11
      refine SemF.cond rfl ?_
      simp only [gE, ↓gT, ↓reduceIte, reduceCtorEq, reduceAdd, reduceEqDiff, reduceLeDiff, reduceLT, eq_true hc7, eq_true (ix_nn h_e8), m_e8, eq_true (ix_nn h_e9), m_e9, hc11]
      refine SemF.seq rfl ?_
      refine SemF.reg true rfl ?_
      try simp only [gE, ↓gT, ↓reduceIte, reduceCtorEq, reduceAdd, reduceEqDiff, reduceLeDiff, reduceLT, eq_true hc7, eq_true (ix_nn h_e8), m_e8, eq_true (ix_nn h_e9), m_e9, hc11]; (repeat intro (_ : _ ≤ lim))
      refine SemF.ret rfl ?_
      try simp only [gE, ↓gT, ↓reduceIte, reduceCtorEq, reduceAdd, reduceEqDiff, reduceLeDiff, reduceLT, eq_true hc7, eq_true (ix_nn h_e8), m_e8, eq_true (ix_nn h_e9), m_e9, hc11]; (repeat intro (_ : _ ≤ lim))
      obtain rfl := Option.some.inj h
      refine hr _ rfl _ _ ?_
      simp only [gE, ↓gT, ↓reduceIte, reduceCtorEq, reduceAdd, reduceEqDiff, reduceLeDiff, reduceLT, RetP_def, eq_true hc7, eq_true (ix_nn h_e8), m_e8, eq_true (ix_nn h_e9), m_e9, hc11]
  · rw [if_neg hc7] at h
    refine SemF.cond rfl ?_
    simp only [gE, ↓gT, ↓reduceIte, reduceCtorEq, reduceAdd, reduceEqDiff, reduceLeDiff, reduceLT, eq_false hc7]
    refine SemF.exit rfl ?_
    simp only [gE, ↓gT, ↓reduceIte, reduceCtorEq, reduceAdd, reduceEqDiff, reduceLeDiff, reduceLT, eq_false hc7]
    obtain rfl := Option.some.inj h
    refine hx _ rfl _ _ [] ⟨by simp only [gE, ↓gT, ↓reduceIte, reduceCtorEq, reduceAdd, reduceEqDiff, reduceLeDiff, reduceLT, hwT, selS, erT, eq_false hc7], by decide, by decide, by simp only [gE, ↓gT, ↓reduceIte, reduceCtorEq, reduceAdd, reduceEqDiff, reduceLeDiff, reduceLT, hwT, selS, erT, subR, eq_false hc7], by simp only [gE, ↓gT, ↓reduceIte, reduceCtorEq, reduceAdd, reduceEqDiff, reduceLeDiff, reduceLT, hwT, selS, erT, scT, esT, eq_false hc7], by simp only [gE, ↓gT, ↓reduceIte, reduceCtorEq, reduceAdd, reduceEqDiff, reduceLeDiff, reduceLT, hwT, selS, erT, scT, esT, eq_false hc7]⟩
theorem laws_eqTokS : ∀ (x : ((List Tok) × (List Tok))) (r : Bool), M.laws_eqTokS x = some r → HCp P F.laws_eqTokS [(.sl (List.map Tok.enc x.1)), (.sl (List.map Tok.enc x.2))] (HV.bool r) := by
  intro x r h
  obtain ⟨p0, p1⟩ := x
  unfold M.laws_eqTokS at h
  try dsimp only at h
  refine HCp.mkF S.laws_eqTokS (by simp [H.laws_eqTokS]) (by simp only [scT, esT, and_self, true_and, and_true]) ?_
  simp only [gE, ↓gT, ↓reduceIte, reduceCtorEq, reduceAdd, reduceEqDiff, reduceLeDiff, reduceLT, H.laws_eqTokS]
  refine SemF.seq rfl ?_
  refine SemF.reg true rfl ?_
  try simp only [gE, ↓gT, ↓reduceIte, reduceCtorEq, reduceAdd, reduceEqDiff, reduceLeDiff, reduceLT]; (repeat intro (_ : _ ≤ lim))
  refine SemF.seq rfl ?_
  refine SemF.seq rfl ?_
  refine SemF.reg true rfl ?_
  try simp only [gE, ↓gT, ↓reduceIte, reduceCtorEq, reduceAdd, reduceEqDiff, reduceLeDiff, reduceLT]; (repeat intro (_ : _ ≤ lim))
  (repeat intro (_ : _ ≤ lim))
  (repeat intro (_ : _ ≤ lim))
  by_cases hc1 : ((p0.length : Nat) : Int) = ((p1.length : Nat) : Int)
  · rw [if_pos hc1] at h
    refine SemF.cond rfl ?_
    simp only [gE, ↓gT, ↓reduceIte, reduceCtorEq, reduceAdd, reduceEqDiff, reduceLeDiff, reduceLT, eq_true hc1]
    refine SemF.skip rfl ?_
    simp only [gE, ↓gT, ↓reduceIte, reduceCtorEq, reduceAdd, reduceEqDiff, reduceLeDiff, reduceLT, eq_true hc1]
    refine SemF.seq rfl ?_
    refine SemF.seq rfl ?_
    refine SemF.reg true rfl ?_
    try simp only [gE, ↓gT, ↓reduceIte, reduceCtorEq, reduceAdd, reduceEqDiff, reduceLeDiff, reduceLT, eq_true hc1]; (repeat intro (_ : _ ≤ lim))
    refine SemF.block rfl ?_
    obtain ⟨s12, h_s12, h⟩ := bs h
    rcases s12 with r13 | v14
    · dsimp only at h
      refine SemF.loop rfl ?_
      refine SemL.weak (sel := []) ⟨by simp only [gE, ↓gT, ↓reduceIte, reduceCtorEq, reduceAdd, reduceEqDiff, reduceLeDiff, reduceLT, hwT, selS, erT, eq_true hc1], by decide, by decide, by simp only [gE, ↓gT, ↓reduceIte, reduceCtorEq, reduceAdd, reduceEqDiff, reduceLeDiff, reduceLT, hwT, selS, erT, subR, eq_true hc1], by simp only [gE, ↓gT, ↓reduceIte, reduceCtorEq, reduceAdd, reduceEqDiff, reduceLeDiff, reduceLT, hwT, selS, erT, scT, esT, eq_true hc1], by simp only [gE, ↓gT, ↓reduceIte, reduceCtorEq, reduceAdd, reduceEqDiff, reduceLeDiff, reduceLT, hwT, selS, erT, scT, esT, eq_true hc1]⟩ (K.laws_eqTokS_L0 (p0, p1, 0) (.inl r13) h_s12 _ ?_ ?_)
      · intro v hv; cases hv
      · intro r' hr' env st hy
        cases hr'
        simp only [gE, ↓gT, ↓reduceIte, reduceCtorEq, reduceAdd, reduceEqDiff, reduceLeDiff, reduceLT]
        obtain rfl := Option.some.inj h
        exact hy
    · dsimp only at h
      refine SemF.loop rfl ?_
      refine SemL.weak (sel := []) ⟨by simp only [gE, ↓gT, ↓reduceIte, reduceCtorEq, reduceAdd, reduceEqDiff, reduceLeDiff, reduceLT, hwT, selS, erT, eq_true hc1], by decide, by decide, by simp only [gE, ↓gT, ↓reduceIte, reduceCtorEq, reduceAdd, reduceEqDiff, reduceLeDiff, reduceLT, hwT, selS, erT, subR, eq_true hc1], by simp only [gE, ↓gT, ↓reduceIte, reduceCtorEq, reduceAdd, reduceEqDiff, reduceLeDiff, reduceLT, hwT, selS, erT, scT, esT, eq_true hc1], by simp only [gE, ↓gT, ↓reduceIte, reduceCtorEq, reduceAdd, reduceEqDiff, reduceLeDiff, reduceLT, hwT, selS, erT, scT, esT, eq_true hc1]⟩ (K.laws_eqTokS_L0 (p0, p1, 0) (.inr v14) h_s12 _ ?_ ?_)
      rotate_left
      · intro r' hr'; cases hr'
      intro v hv env st sel hw
      cases hv
      simp only [gE, ↓gT, ↓reduceIte, reduceCtorEq, reduceAdd, reduceEqDiff, reduceLeDiff, reduceLT]
      first | refine SemF.weak hw ?_ | refine SemL.weak hw ?_
      refine SemF.seq rfl ?_
      refine SemF.reg true rfl ?_
      try simp only [gE, ↓gT, ↓reduceIte, reduceCtorEq, reduceAdd, reduceEqDiff, reduceLeDiff, reduceLT, eq_true hc1]; (repeat intro (_ : _ ≤ lim))
      refine SemF.ret rfl ?_
      try simp only [gE, ↓gT, ↓reduceIte, reduceCtorEq, reduceAdd, reduceEqDiff, reduceLeDiff, reduceLT, eq_true hc1]; (repeat intro (_ : _ ≤ lim))
      obtain rfl := Option.some.inj h
      simp only [gE, ↓gT, ↓reduceIte, reduceCtorEq, reduceAdd, reduceEqDiff, reduceLeDiff, reduceLT, RetP_def, eq_true hc1]
  · rw [if_neg hc1] at h
    refine SemF.cond rfl ?_
    simp only [gE, ↓gT, ↓reduceIte, reduceCtorEq, reduceAdd, reduceEqDiff, reduceLeDiff, reduceLT, eq_false hc1]
    refine SemF.seq rfl ?_
    refine SemF.reg true rfl ?_
    try simp only [gE, ↓gT, ↓reduceIte, reduceCtorEq, reduceAdd, reduceEqDiff, reduceLeDiff, reduceLT, eq_false hc1]; (repeat intro (_ : _ ≤ lim))
    refine SemF.ret rfl ?_
    try simp only [gE, ↓gT, ↓reduceIte, reduceCtorEq, reduceAdd, reduceEqDiff, reduceLeDiff, reduceLT, eq_false hc1]; (repeat intro (_ : _ ≤ lim))
    obtain rfl := Option.some.inj h
    simp only [gE, ↓gT, ↓reduceIte, reduceCtorEq, reduceAdd, reduceEqDiff, reduceLeDiff, reduceLT, RetP_def, eq_false hc1]
theorem laws_toTok : ∀ (x : Tok) (r : Tok), M.laws_toTok x = some r → HCp P F.laws_toTok [(Tok.enc x)] (Tok.enc r) := by
  intro x r h
  revert h; revert x; intro p0 h
  unfold M.laws_toTok at h
  try dsimp only at h
  refine HCp.mkF S.laws_toTok (by simp [H.laws_toTok]) (by simp only [scT, esT, and_self, true_and, and_true]) ?_
  simp only [gE, ↓gT, ↓reduceIte, reduceCtorEq, reduceAdd, reduceEqDiff, reduceLeDiff, reduceLT, H.laws_toTok]
  refine SemF.seq rfl ?_
  refine SemF.reg true rfl ?_
  try simp only [gE, ↓gT, ↓reduceIte, reduceCtorEq, reduceAdd, reduceEqDiff, reduceLeDiff, reduceLT]; (repeat intro (_ : _ ≤ lim))
  refine SemF.seq rfl ?_
  refine SemF.reg true rfl ?_
  try simp only [gE, ↓gT, ↓reduceIte, reduceCtorEq, reduceAdd, reduceEqDiff, reduceLeDiff, reduceLT]; (repeat intro (_ : _ ≤ lim))
  refine SemF.seq rfl ?_
  refine SemF.reg true rfl ?_
  try simp only [gE, ↓gT, ↓reduceIte, reduceCtorEq, reduceAdd, reduceEqDiff, reduceLeDiff, reduceLT]; (repeat intro (_ : _ ≤ lim))
  refine SemF.seq rfl ?_
  refine SemF.reg true rfl ?_
  try simp only [gE, ↓gT, ↓reduceIte, reduceCtorEq, reduceAdd, reduceEqDiff, reduceLeDiff, reduceLT]; (repeat intro (_ : _ ≤ lim))
  refine SemF.seq rfl ?_
  refine SemF.reg true rfl ?_
  try simp only [gE, ↓gT, ↓reduceIte, reduceCtorEq, reduceAdd, reduceEqDiff, reduceLeDiff, reduceLT]; (repeat intro (_ : _ ≤ lim))
  refine SemF.seq rfl ?_
  refine SemF.reg true rfl ?_
  try simp only [gE, ↓gT, ↓reduceIte, reduceCtorEq, reduceAdd, reduceEqDiff, reduceLeDiff, reduceLT]; (repeat intro (_ : _ ≤ lim))
  refine SemF.seq rfl ?_
  refine SemF.reg true rfl ?_
  try simp only [gE, ↓gT, ↓reduceIte, reduceCtorEq, reduceAdd, reduceEqDiff, reduceLeDiff, reduceLT]; (repeat intro (_ : _ ≤ lim))
  refine SemF.ret rfl ?_
  try simp only [gE, ↓gT, ↓reduceIte, reduceCtorEq, reduceAdd, reduceEqDiff, reduceLeDiff, reduceLT]; (repeat intro (_ : _ ≤ lim))
  obtain rfl := Option.some.inj h
  simp only [gE, ↓gT, ↓reduceIte, reduceCtorEq, reduceAdd, reduceEqDiff, reduceLeDiff, reduceLT, RetP_def]
theorem laws_toTokS_L0 : ∀ (x : ((List Tok) × Int × (List Tok))) (out : (List Tok)), M.laws_toTokS_L0 x = some out → ∀ Q : HExit → Env → St → Prop, (∀ env st sel, Weak 0 sel [(3, (.own 0 out.length))] [(.arr 4 (List.map Tok.enc out) true)] env st → Q (.exit 0) env st) → SemL P H.laws_toTokS.ntmps 0 H.laws_toTokS_l5 [(0, (.sl (List.map Tok.enc x.1))), (3, (.own 0 x.2.2.length)), (4, (.int .i64 x.2.1))] [(.arr 4 (List.map Tok.enc x.2.2) true)] Q := by
  refine M.laws_toTokS_L0.partial_correctness (motive := fun x out => ∀ Q : HExit → Env → St → Prop, (∀ env st sel, Weak 0 sel [(3, (.own 0 out.length))] [(.arr 4 (List.map Tok.enc out) true)] env st → Q (.exit 0) env st) → SemL P H.laws_toTokS.ntmps 0 H.laws_toTokS_l5 [(0, (.sl (List.map Tok.enc x.1))), (3, (.own 0 x.2.2.length)), (4, (.int .i64 x.2.1))] [(.arr 4 (List.map Tok.enc x.2.2) true)] Q) ?_
  intro f_laws_toTokS_L0 ih_laws_toTokS_L0 x out h
  obtain ⟨p0, t4_L0, a0_L0⟩ := x
  try dsimp only at h
  intro Q hx
  refine SemL.round ?_
  try dsimp only at hx
  refine SemF.seq rfl ?_
  refine SemF.seq rfl ?_
  refine SemF.reg true rfl ?_
  try simp only [gE, ↓gT, ↓reduceIte, reduceCtorEq, reduceAdd, reduceEqDiff, reduceLeDiff, reduceLT]; (repeat intro (_ : _ ≤ lim))
  (repeat intro (_ : _ ≤ lim))
  by_cases hc19 : t4_L0 < ((p0.length : Nat) : Int)
  · rw [if_pos hc19] at h
    refine SemF.cond rfl ?_
    simp only [gE, ↓gT, ↓reduceIte, reduceCtorEq, reduceAdd, reduceEqDiff, reduceLeDiff, reduceLT, eq_true hc19]
    refine SemF.skip rfl ?_
    simp only [gE, ↓gT, ↓reduceIte, reduceCtorEq, reduceAdd, reduceEqDiff, reduceLeDiff, reduceLT, eq_true hc19]
    refine SemF.seq rfl ?_
    refine SemF.block rfl ?_
    refine SemF.reg true rfl ?_
    try simp only [gE, ↓gT, ↓reduceIte, reduceCtorEq, reduceAdd, reduceEqDiff, reduceLeDiff, reduceLT, eq_true hc19]; (repeat intro (_ : _ ≤ lim))
    obtain ⟨e20, h_e20, h⟩ := bs h
    have m_e20 := ixm (f := Tok.enc) (ix_get h_e20)
    try simp only [gE, ↓gT, ↓reduceIte, reduceCtorEq, reduceAdd, reduceEqDiff, reduceLeDiff, reduceLT, eq_true hc19, eq_true (ix_nn h_e20), m_e20]; (repeat intro (_ : _ ≤ lim))
    obtain ⟨r21, h_r21, h⟩ := bs h
    refine HCp.callE (K.laws_toTok e20 r21 h_r21) (by simp only [gE, ↓gT, ↓reduceIte, reduceCtorEq, reduceAdd, reduceEqDiff, reduceLeDiff, reduceLT, eq_true hc19, eq_true (ix_nn h_e20), m_e20]) (by simp only [scT, esT, and_self, true_and, and_true]) (by simp only [scT, esT, and_self, true_and, and_true]) ?_
    try simp only [gE, ↓gT, ↓reduceIte, reduceCtorEq, reduceAdd, reduceEqDiff, reduceLeDiff, reduceLT, eq_true hc19, eq_true (ix_nn h_e20), m_e20]; (repeat intro (_ : _ ≤ lim))
    obtain ⟨u23, h_u23, h⟩ := bs h
    have hg22 := gd_some h_u23
    try simp only [gE, ↓gT, ↓reduceIte, reduceCtorEq, reduceAdd, reduceEqDiff, reduceLeDiff, reduceLT, eq_true hc19, eq_true (ix_nn h_e20), m_e20, eq_true hg22]; (repeat intro (_ : _ ≤ lim))
    obtain ⟨u25, h_u25, h⟩ := bs h
    have hg24 := gd_some h_u25
    try simp only [gE, ↓gT, ↓reduceIte, reduceCtorEq, reduceAdd, reduceEqDiff, reduceLeDiff, reduceLT, eq_true hc19, eq_true (ix_nn h_e20), m_e20, eq_true hg22, eq_true hg24]; (repeat intro (_ : _ ≤ lim))
    obtain ⟨y26, m_y26⟩ := own_get (f := Tok.enc) (l := a0_L0) (by simp only [List.length_replicate, List.length_set, List.length_append, List.length_cons, List.length_nil, Nat.zero_add, reduceAdd]) hg22 hg24
    try simp only [gE, ↓gT, ↓reduceIte, reduceCtorEq, reduceAdd, reduceEqDiff, reduceLeDiff, reduceLT, eq_true hc19, eq_true (ix_nn h_e20), m_e20, eq_true hg22, eq_true hg24, m_y26]; (repeat intro (_ : _ ≤ lim))
    refine SemF.reg true rfl ?_
    try simp only [gE, ↓gT, ↓reduceIte, reduceCtorEq, reduceAdd, reduceEqDiff, reduceLeDiff, reduceLT, eq_true hc19, eq_true (ix_nn h_e20), m_e20, eq_true hg22, eq_true hg24, m_y26]; (repeat intro (_ : _ ≤ lim))
    refine SemL.weak (sel := [0]) ⟨by simp only [gE, ↓gT, ↓reduceIte, reduceCtorEq, reduceAdd, reduceEqDiff, reduceLeDiff, reduceLT, hwT, selS, erT, eq_true hc19, eq_true (ix_nn h_e20), m_e20, eq_true hg22, eq_true hg24, m_y26], by decide, by decide, by simp only [gE, ↓gT, ↓reduceIte, reduceCtorEq, reduceAdd, reduceEqDiff, reduceLeDiff, reduceLT, hwT, selS, erT, subR, eq_true hc19, eq_true (ix_nn h_e20), m_e20, eq_true hg22, eq_true hg24, m_y26], by simp only [gE, ↓gT, ↓reduceIte, reduceCtorEq, reduceAdd, reduceEqDiff, reduceLeDiff, reduceLT, hwT, selS, erT, scT, esT, eq_true hc19, eq_true (ix_nn h_e20), m_e20, eq_true hg22, eq_true hg24, m_y26], by simp only [gE, ↓gT, ↓reduceIte, reduceCtorEq, reduceAdd, reduceEqDiff, reduceLeDiff, reduceLT, hwT, selS, erT, scT, esT, eq_true hc19, eq_true (ix_nn h_e20), m_e20, eq_true hg22, eq_true hg24, m_y26]⟩ (ih_laws_toTokS_L0 (p0, (IntKind.i64.wrap (t4_L0 + 1)), (a0_L0.set t4_L0.toNat r21)) out h Q hx)
  · rw [if_neg hc19] at h
    refine SemF.cond rfl ?_
    simp only [gE, ↓gT, ↓reduceIte, reduceCtorEq, reduceAdd, reduceEqDiff, reduceLeDiff, reduceLT, eq_false hc19]
    refine SemF.exit rfl ?_
    simp only [gE, ↓gT, ↓reduceIte, reduceCtorEq, reduceAdd, reduceEqDiff, reduceLeDiff, reduceLT, eq_false hc19]
    obtain rfl := Option.some.inj h
    refine hx _ _ [0] ⟨by simp only [gE, ↓gT, ↓reduceIte, reduceCtorEq, reduceAdd, reduceEqDiff, reduceLeDiff, reduceLT, hwT, selS, erT, eq_false hc19], by decide, by decide, by simp only [gE, ↓gT, ↓reduceIte, reduceCtorEq, reduceAdd, reduceEqDiff, reduceLeDiff, reduceLT, hwT, selS, erT, subR, eq_false hc19], by simp only [gE, ↓gT, ↓reduceIte, reduceCtorEq, reduceAdd, reduceEqDiff, reduceLeDiff, reduceLT, hwT, selS, erT, scT, esT, eq_false hc19], by simp only [gE, ↓gT, ↓reduceIte, reduceCtorEq, reduceAdd, reduceEqDiff, reduceLeDiff, reduceLT, hwT, selS, erT, scT, esT, eq_false hc19]⟩
theorem laws_toTokS : ∀ (x : (List Tok)) (r : (List Tok)), M.laws_toTokS x = some r → HCp P F.laws_toTokS [(.sl (List.map Tok.enc x))] (HV.sl (List.map Tok.enc r)) := by
  intro x r h
  revert h; revert x; intro p0 h
  unfold M.laws_toTokS at h
  try dsimp only at h
  refine HCp.mkF S.laws_toTokS (by simp [H.laws_toTokS]) (by simp only [scT, esT, and_self, true_and, and_true]) ?_
  simp only [gE, ↓gT, ↓reduceIte, reduceCtorEq, reduceAdd, reduceEqDiff, reduceLeDiff, reduceLT, H.laws_toTokS]
  refine SemF.seq rfl ?_
  refine SemF.reg true rfl ?_
  try simp only [gE, ↓gT, ↓reduceIte, reduceCtorEq, reduceAdd, reduceEqDiff, reduceLeDiff, reduceLT]; (repeat intro (_ : _ ≤ lim))
  refine SemF.seq rfl ?_
  refine SemF.reg true rfl ?_
  try simp only [gE, ↓gT, ↓reduceIte, reduceCtorEq, reduceAdd, reduceEqDiff, reduceLeDiff, reduceLT]; (repeat intro (_ : _ ≤ lim))
  (repeat intro (_ : _ ≤ lim))
  obtain ⟨u2, h_u2, h⟩ := bs h
  have hg1 := gd_some h_u2
  try simp only [gE, ↓gT, ↓reduceIte, reduceCtorEq, reduceAdd, reduceEqDiff, reduceLeDiff, reduceLT, eq_true hg1]; (repeat intro (_ : _ ≤ lim))
  obtain ⟨u4, h_u4, h⟩ := bs h
  have hg3 := gd_some h_u4
  try simp only [gE, ↓gT, ↓reduceIte, reduceCtorEq, reduceAdd, reduceEqDiff, reduceLeDiff, reduceLT, eq_true hg1, eq_true hg3]; (repeat intro (_ : _ ≤ lim))
  refine SemF.seq rfl ?_
  refine SemF.seq rfl ?_
  refine SemF.reg true rfl ?_
  try simp only [gE, ↓gT, ↓reduceIte, reduceCtorEq, reduceAdd, reduceEqDiff, reduceLeDiff, reduceLT, eq_true hg1, eq_true hg3]; (repeat intro (_ : _ ≤ lim))
  refine SemF.block rfl ?_
  obtain ⟨s27, h_s27, h⟩ := bs h
  refine SemF.loop rfl ?_
  refine SemL.weak (sel := [0]) ⟨by simp only [gE, ↓gT, ↓reduceIte, reduceCtorEq, reduceAdd, reduceEqDiff, reduceLeDiff, reduceLT, hwT, selS, erT, eq_true hg1, eq_true hg3], by decide, by decide, by simp only [gE, ↓gT, ↓reduceIte, reduceCtorEq, reduceAdd, reduceEqDiff, reduceLeDiff, reduceLT, hwT, selS, erT, subR, eq_true hg1, eq_true hg3], by simp only [gE, ↓gT, ↓reduceIte, reduceCtorEq, reduceAdd, reduceEqDiff, reduceLeDiff, reduceLT, hwT, selS, erT, scT, esT, eq_true hg1, eq_true hg3], by simp only [gE, ↓gT, ↓reduceIte, reduceCtorEq, reduceAdd, reduceEqDiff, reduceLeDiff, reduceLT, hwT, selS, erT, scT, esT, eq_true hg1, eq_true hg3]⟩ (K.laws_toTokS_L0 (p0, 0, (List.replicate p0.length (Tok.mk 0 (⟨⟨[]⟩⟩ : ByteArray) 0 0))) s27 h_s27 _ ?_)
  intro env st sel hw
  simp only [gE, ↓gT, ↓reduceIte, reduceCtorEq, reduceAdd, reduceEqDiff, reduceLeDiff, reduceLT]
  first | refine SemF.weak hw ?_ | refine SemL.weak hw ?_
  refine SemF.seq rfl ?_
  refine SemF.reg true rfl ?_
  try simp only [gE, ↓gT, ↓reduceIte, reduceCtorEq, reduceAdd, reduceEqDiff, reduceLeDiff, reduceLT, eq_true hg1, eq_true hg3]; (repeat intro (_ : _ ≤ lim))
  refine SemF.ret rfl ?_
  try simp only [gE, ↓gT, ↓reduceIte, reduceCtorEq, reduceAdd, reduceEqDiff, reduceLeDiff, reduceLT, eq_true hg1, eq_true hg3]; (repeat intro (_ : _ ≤ lim))
  obtain rfl := Option.some.inj h
  simp only [gE, ↓gT, ↓reduceIte, reduceCtorEq, reduceAdd, reduceEqDiff, reduceLeDiff, reduceLT, RetP_def, eq_true hg1, eq_true hg3]
theorem spec_l2Is : ∀ (x : (Tok × Int × ByteArray)) (r : Bool), M.spec_l2Is x = some r → HCp P F.spec_l2Is [(Tok.enc x.1), (.int .i64 x.2.1), (.str x.2.2)] (HV.bool r) := by
  intro x r h
  obtain ⟨p0, p1, p2⟩ := x
  unfold M.spec_l2Is at h
  try dsimp only at h
  refine HCp.mkF S.spec_l2Is (by simp [H.spec_l2Is]) (by simp only [scT, esT, and_self, true_and, and_true]) ?_
  simp only [gE, ↓gT, ↓reduceIte, reduceCtorEq, reduceAdd, reduceEqDiff, reduceLeDiff, reduceLT, H.spec_l2Is]
  refine SemF.seq rfl ?_
  refine SemF.reg true rfl ?_
  try simp only [gE, ↓gT, ↓reduceIte, reduceCtorEq, reduceAdd, reduceEqDiff, reduceLeDiff, reduceLT]; (repeat intro (_ : _ ≤ lim))
  refine SemF.seq rfl ?_
  refine SemF.reg true rfl ?_
  try simp only [gE, ↓gT, ↓reduceIte, reduceCtorEq, reduceAdd, reduceEqDiff, reduceLeDiff, reduceLT]; (repeat intro (_ : _ ≤ lim))
  by_cases hc1 : p0.K = p1
  · rw [if_pos hc1] at h
    try simp only [gE, ↓gT, ↓reduceIte, reduceCtorEq, reduceAdd, reduceEqDiff, reduceLeDiff, reduceLT, eq_true hc1]; (repeat intro (_ : _ ≤ lim))
    refine SemF.ret rfl ?_
    try simp only [gE, ↓gT, ↓reduceIte, reduceCtorEq, reduceAdd, reduceEqDiff, reduceLeDiff, reduceLT, eq_true hc1]; (repeat intro (_ : _ ≤ lim))
    obtain rfl := Option.some.inj h
    simp only [gE, ↓gT, ↓reduceIte, reduceCtorEq, reduceAdd, reduceEqDiff, reduceLeDiff, reduceLT, RetP_def, eq_true hc1]
  · rw [if_neg hc1] at h
    try simp only [gE, ↓gT, ↓reduceIte, reduceCtorEq, reduceAdd, reduceEqDiff, reduceLeDiff, reduceLT, eq_false hc1]; (repeat intro (_ : _ ≤ lim))
    refine SemF.ret rfl ?_
    try simp only [gE, ↓gT, ↓reduceIte, reduceCtorEq, reduceAdd, reduceEqDiff, reduceLeDiff, reduceLT, eq_false hc1]; (repeat intro (_ : _ ≤ lim))
    obtain rfl := Option.some.inj h
    simp only [gE, ↓gT, ↓reduceIte, reduceCtorEq, reduceAdd, reduceEqDiff, reduceLeDiff, reduceLT, RetP_def, eq_false hc1]
theorem spec_Blocks_L0 : ∀ (x : ((List Tok) × Int × Int)) (out : Int), M.spec_Blocks_L0 x = some out → ∀ Q : HExit → Env → St → Prop, (∀ env st sel, Weak 0 sel [(3, (.int .i64 out))] [] env st → Q (.exit 0) env st) → SemL P H.spec_Blocks.ntmps 0 H.spec_Blocks_l5 [(0, (.sl (List.map Tok.enc x.1))), (3, (.int .i64 x.2.1)), (4, (.int .i64 x.2.2))] [] Q := by
  refine M.spec_Blocks_L0.partial_correctness (motive := fun x out => ∀ Q : HExit → Env → St → Prop, (∀ env st sel, Weak 0 sel [(3, (.int .i64 out))] [] env st → Q (.exit 0) env st) → SemL P H.spec_Blocks.ntmps 0 H.spec_Blocks_l5 [(0, (.sl (List.map Tok.enc x.1))), (3, (.int .i64 x.2.1)), (4, (.int .i64 x.2.2))] [] Q) ?_
  intro f_spec_Blocks_L0 ih_spec_Blocks_L0 x out h
  obtain ⟨p0, t3_L0, t4_L0⟩ := x
  try dsimp only at h
  intro Q hx
  refine SemL.round ?_
  try dsimp only at hx
  refine SemF.seq rfl ?_
  refine SemF.seq rfl ?_
  refine SemF.reg true rfl ?_
  try simp only [gE, ↓gT, ↓reduceIte, reduceCtorEq, reduceAdd, reduceEqDiff, reduceLeDiff, reduceLT]; (repeat intro (_ : _ ≤ lim))
  (repeat intro (_ : _ ≤ lim))
  by_cases hc6 : t4_L0 < ((p0.length : Nat) : Int)
  · rw [if_pos hc6] at h
    refine SemF.cond rfl ?_
    simp only [gE, ↓gT, ↓reduceIte, reduceCtorEq, reduceAdd, reduceEqDiff, reduceLeDiff, reduceLT, eq_true hc6]
    refine SemF.skip rfl ?_
    simp only [gE, ↓gT, ↓reduceIte, reduceCtorEq, reduceAdd, reduceEqDiff, reduceLeDiff, reduceLT, eq_true hc6]
    refine SemF.seq rfl ?_
    refine SemF.block rfl ?_
    refine SemF.seq rfl ?_
    refine SemF.reg true rfl ?_
    try simp only [gE, ↓gT, ↓reduceIte, reduceCtorEq, reduceAdd, reduceEqDiff, reduceLeDiff, reduceLT, eq_true hc6]; (repeat intro (_ : _ ≤ lim))
    obtain ⟨e7, h_e7, h⟩ := bs h
    have m_e7 := ixm (f := Tok.enc) (ix_get h_e7)
    try simp only [gE, ↓gT, ↓reduceIte, reduceCtorEq, reduceAdd, reduceEqDiff, reduceLeDiff, reduceLT, eq_true hc6, eq_true (ix_nn h_e7), m_e7]; (repeat intro (_ : _ ≤ lim))
    obtain ⟨r8, h_r8, h⟩ := bs h
    refine HCp.callE (K.spec_l2Is (e7, 5, (⟨⟨[123]⟩⟩ : ByteArray)) r8 h_r8) (by simp only [gE, ↓gT, ↓reduceIte, reduceCtorEq, reduceAdd, reduceEqDiff, reduceLeDiff, reduceLT, eq_true hc6, eq_true (ix_nn h_e7), m_e7]) (by simp only [scT, esT, and_self, true_and, and_true]) (by simp only [scT, esT, and_self, true_and, and_true]) ?_
    try simp only [gE, ↓gT, ↓reduceIte, reduceCtorEq, reduceAdd, reduceEqDiff, reduceLeDiff, reduceLT, eq_true hc6, eq_true (ix_nn h_e7), m_e7]; (repeat intro (_ : _ ≤ lim))
    by_cases hc9 : r8 = true
    · rw [if_pos hc9] at h
      try simp only [gE, ↓gT, ↓reduceIte, reduceCtorEq, reduceAdd, reduceEqDiff, reduceLeDiff, reduceLT, eq_true hc6, eq_true (ix_nn h_e7), m_e7, hc9]; (repeat intro (_ : _ ≤ lim))
      by_cases hc10 : e7.Line = 0
      · rw [if_pos hc10] at h
        refine SemF.cond rfl ?_
        simp only [gE, ↓gT, ↓reduceIte, reduceCtorEq, reduceAdd, reduceEqDiff, reduceLeDiff, reduceLT, eq_true hc6, eq_true (ix_nn h_e7), m_e7, hc9, eq_true hc10]
        refine SemF.reg true rfl ?_
        try simp only [gE, ↓gT, ↓reduceIte, reduceCtorEq, reduceAdd, reduceEqDiff, reduceLeDiff, reduceLT, eq_true hc6, eq_true (ix_nn h_e7), m_e7, hc9, eq_true hc10]; (repeat intro (_ : _ ≤ lim))
        refine SemF.reg true rfl ?_
        try simp only [gE, ↓gT, ↓reduceIte, reduceCtorEq, reduceAdd, reduceEqDiff, reduceLeDiff, reduceLT, eq_true hc6, eq_true (ix_nn h_e7), m_e7, hc9, eq_true hc10]; (repeat intro (_ : _ ≤ lim))
        refine SemL.weak (sel := []) ⟨by simp only [gE, ↓gT, ↓reduceIte, reduceCtorEq, reduceAdd, reduceEqDiff, reduceLeDiff, reduceLT, hwT, selS, erT, eq_true hc6, eq_true (ix_nn h_e7), m_e7, hc9, eq_true hc10], by decide, by decide, by simp only [gE, ↓gT, ↓reduceIte, reduceCtorEq, reduceAdd, reduceEqDiff, reduceLeDiff, reduceLT, hwT, selS, erT, subR, eq_true hc6, eq_true (ix_nn h_e7), m_e7, hc9, eq_true hc10], by simp only [gE, ↓gT, ↓reduceIte, reduceCtorEq, reduceAdd, reduceEqDiff, reduceLeDiff, reduceLT, hwT, selS, erT, scT, esT, eq_true hc6, eq_true (ix_nn h_e7), m_e7, hc9, eq_true hc10], by simp only [gE, ↓gT, ↓reduceIte, reduceCtorEq, reduceAdd, reduceEqDiff, reduceLeDiff, reduceLT, hwT, selS, erT, scT, esT, eq_true hc6, eq_true (ix_nn h_e7), m_e7, hc9, eq_true hc10]⟩ (ih_spec_Blocks_L0 (p0, (IntKind.i64.wrap (t3_L0 + 1)), (IntKind.i64.wrap (t4_L0 + 1))) out h Q hx)
      · rw [if_neg hc10] at h
        refine SemF.cond rfl ?_
        simp only [gE, ↓gT, ↓reduceIte, reduceCtorEq, reduceAdd, reduceEqDiff, reduceLeDiff, reduceLT, eq_true hc6, eq_true (ix_nn h_e7), m_e7, hc9, eq_false hc10]
        refine SemF.skip rfl ?_
        simp only [gE, ↓gT, ↓reduceIte, reduceCtorEq, reduceAdd, reduceEqDiff, reduceLeDiff, reduceLT, eq_true hc6, eq_true (ix_nn h_e7), m_e7, hc9, eq_false hc10]
        refine SemF.reg true rfl ?_
        try simp only [gE, ↓gT, ↓reduceIte, reduceCtorEq, reduceAdd, reduceEqDiff, reduceLeDiff, reduceLT, eq_true hc6, eq_true (ix_nn h_e7), m_e7, hc9, eq_false hc10]; (repeat intro (_ : _ ≤ lim))
        refine SemL.weak (sel := []) ⟨by simp only [gE, ↓gT, ↓reduceIte, reduceCtorEq, reduceAdd, reduceEqDiff, reduceLeDiff, reduceLT, hwT, selS, erT, eq_true hc6, eq_true (ix_nn h_e7), m_e7, hc9, eq_false hc10], by decide, by decide, by simp only [gE, ↓gT, ↓reduceIte, reduceCtorEq, reduceAdd, reduceEqDiff, reduceLeDiff, reduceLT, hwT, selS, erT, subR, eq_true hc6, eq_true (ix_nn h_e7), m_e7, hc9, eq_false hc10], by simp only [gE, ↓gT, ↓reduceIte, reduceCtorEq, reduceAdd, reduceEqDiff, reduceLeDiff, reduceLT, hwT, selS, erT, scT, esT, eq_true hc6, eq_true (ix_nn h_e7), m_e7, hc9, eq_false hc10], by simp only [gE, ↓gT, ↓reduceIte, reduceCtorEq, reduceAdd, reduceEqDiff, reduceLeDiff, reduceLT, hwT, selS, erT, scT, esT, eq_true hc6, eq_true (ix_nn h_e7), m_e7, hc9, eq_false hc10]⟩ (ih_spec_Blocks_L0 (p0, t3_L0, (IntKind.i64.wrap (t4_L0 + 1))) out h Q hx)
    · rw [if_neg hc9] at h
      replace hc9 := eq_false_of_ne_true hc9
      try simp only [gE, ↓gT, ↓reduceIte, reduceCtorEq, reduceAdd, reduceEqDiff, reduceLeDiff, reduceLT, eq_true hc6, eq_true (ix_nn h_e7), m_e7, hc9]; (repeat intro (_ : _ ≤ lim))
      refine SemF.cond rfl ?_
      simp only [gE, ↓gT, ↓reduceIte, reduceCtorEq, reduceAdd, reduceEqDiff, reduceLeDiff, reduceLT, eq_true hc6, eq_true (ix_nn h_e7), m_e7, hc9]
      refine SemF.skip rfl ?_
      simp only [gE, ↓gT, ↓reduceIte, reduceCtorEq, reduceAdd, reduceEqDiff, reduceLeDiff, reduceLT, eq_true hc6, eq_true (ix_nn h_e7), m_e7, hc9]
      refine SemF.reg true rfl ?_
      try simp only [gE, ↓gT, ↓reduceIte, reduceCtorEq, reduceAdd, reduceEqDiff, reduceLeDiff, reduceLT, eq_true hc6, eq_true (ix_nn h_e7), m_e7, hc9]; (repeat intro (_ : _ ≤ lim))
      refine SemL.weak (sel := []) ⟨by simp only [gE, ↓gT, ↓reduceIte, reduceCtorEq, reduceAdd, reduceEqDiff, reduceLeDiff, reduceLT, hwT, selS, erT, eq_true hc6, eq_true (ix_nn h_e7), m_e7, hc9], by decide, by decide, by simp only [gE, ↓gT, ↓reduceIte, reduceCtorEq, reduceAdd, reduceEqDiff, reduceLeDiff, reduceLT, hwT, selS, erT, subR, eq_true hc6, eq_true (ix_nn h_e7), m_e7, hc9], by simp only [gE, ↓gT, ↓reduceIte, reduceCtorEq, reduceAdd, reduceEqDiff, reduceLeDiff, reduceLT, hwT, selS, erT, scT, esT, eq_true hc6, eq_true (ix_nn h_e7), m_e7, hc9], by simp only [gE, ↓gT, ↓reduceIte, reduceCtorEq, reduceAdd, reduceEqDiff, reduceLeDiff, reduceLT, hwT, selS, erT, scT, esT, eq_true hc6, eq_true (ix_nn h_e7), m_e7, hc9]⟩ (ih_spec_Blocks_L0 (p0, t3_L0, (IntKind.i64.wrap (t4_L0 + 1))) out h Q hx)
  · rw [if_neg hc6] at h
    refine SemF.cond rfl ?_
    simp only [gE, ↓gT, ↓reduceIte, reduceCtorEq, reduceAdd, reduceEqDiff, reduceLeDiff, reduceLT, eq_false hc6]
    refine SemF.exit rfl ?_
    simp only [gE, ↓gT, ↓reduceIte, reduceCtorEq, reduceAdd, reduceEqDiff, reduceLeDiff, reduceLT, eq_false hc6]
    obtain rfl := Option.some.inj h
    refine hx _ _ [] ⟨by simp only [gE, ↓gT, ↓reduceIte, reduceCtorEq, reduceAdd, reduceEqDiff, reduceLeDiff, reduceLT, hwT, selS, erT, eq_false hc6], by decide, by decide, by simp only [gE, ↓gT, ↓reduceIte, reduceCtorEq, reduceAdd, reduceEqDiff, reduceLeDiff, reduceLT, hwT, selS, erT, subR, eq_false hc6], by simp only [gE, ↓gT, ↓reduceIte, reduceCtorEq, reduceAdd, reduceEqDiff, reduceLeDiff, reduceLT, hwT, selS, erT, scT, esT, eq_false hc6], by simp only [gE, ↓gT, ↓reduceIte, reduceCtorEq, reduceAdd, reduceEqDiff, reduceLeDiff, reduceLT, hwT, selS, erT, scT, esT, eq_false hc6]⟩
theorem spec_Blocks : ∀ (x : (List Tok)) (r : Int), M.spec_Blocks x = some r → HCp P F.spec_Blocks [(.sl (List.map Tok.enc x))] (HV.int .i64 r) := by
  intro x r h
  revert h; revert x; intro p0 h
  unfold M.spec_Blocks at h
  try dsimp only at h
  refine HCp.mkF S.spec_Blocks (by simp [H.spec_Blocks]) (by simp only [scT, esT, and_self, true_and, and_true]) ?_
  simp only [gE, ↓gT, ↓reduceIte, reduceCtorEq, reduceAdd, reduceEqDiff, reduceLeDiff, reduceLT, H.spec_Blocks]
  refine SemF.seq rfl ?_
  refine SemF.reg true rfl ?_
  try simp only [gE, ↓gT, ↓reduceIte, reduceCtorEq, reduceAdd, reduceEqDiff, reduceLeDiff, reduceLT]; (repeat intro (_ : _ ≤ lim))
  refine SemF.seq rfl ?_
  refine SemF.reg true rfl ?_
  try simp only [gE, ↓gT, ↓reduceIte, reduceCtorEq, reduceAdd, reduceEqDiff, reduceLeDiff, reduceLT]; (repeat intro (_ : _ ≤ lim))
  refine SemF.seq rfl ?_
  refine SemF.seq rfl ?_
  refine SemF.reg true rfl ?_
  try simp only [gE, ↓gT, ↓reduceIte, reduceCtorEq, reduceAdd, reduceEqDiff, reduceLeDiff, reduceLT]; (repeat intro (_ : _ ≤ lim))
  refine SemF.block rfl ?_
  obtain ⟨s11, h_s11, h⟩ := bs h
  refine SemF.loop rfl ?_
  refine SemL.weak (sel := []) ⟨by simp only [gE, ↓gT, ↓reduceIte, reduceCtorEq, reduceAdd, reduceEqDiff, reduceLeDiff, reduceLT, hwT, selS, erT], by decide, by decide, by simp only [gE, ↓gT, ↓reduceIte, reduceCtorEq, reduceAdd, reduceEqDiff, reduceLeDiff, reduceLT, hwT, selS, erT, subR], by simp only [gE, ↓gT, ↓reduceIte, reduceCtorEq, reduceAdd, reduceEqDiff, reduceLeDiff, reduceLT, hwT, selS, erT, scT, esT], by simp only [gE, ↓gT, ↓reduceIte, reduceCtorEq, reduceAdd, reduceEqDiff, reduceLeDiff, reduceLT, hwT, selS, erT, scT, esT]⟩ (K.spec_Blocks_L0 (p0, 0, 0) s11 h_s11 _ ?_)
  intro env st sel hw
  simp only [gE, ↓gT, ↓reduceIte, reduceCtorEq, reduceAdd, reduceEqDiff, reduceLeDiff, reduceLT]
  first | refine SemF.weak hw ?_ | refine SemL.weak hw ?_
  refine SemF.seq rfl ?_
  refine SemF.reg true rfl ?_
  try simp only [gE, ↓gT, ↓reduceIte, reduceCtorEq, reduceAdd, reduceEqDiff, reduceLeDiff, reduceLT]; (repeat intro (_ : _ ≤ lim))
  refine SemF.ret rfl ?_
  try simp only [gE, ↓gT, ↓reduceIte, reduceCtorEq, reduceAdd, reduceEqDiff, reduceLeDiff, reduceLT]; (repeat intro (_ : _ ≤ lim))
  obtain rfl := Option.some.inj h
  simp only [gE, ↓gT, ↓reduceIte, reduceCtorEq, reduceAdd, reduceEqDiff, reduceLeDiff, reduceLT, RetP_def]
theorem laws_szTok : ∀ (x : (Tok × Int)) (r : Int), M.laws_szTok x = some r → HCp P F.laws_szTok [(Tok.enc x.1), (.int .i64 x.2)] (HV.int .i64 r) := by
  intro x r h
  obtain ⟨p0, p1⟩ := x
  unfold M.laws_szTok at h
  try dsimp only at h
  refine HCp.mkF S.laws_szTok (by simp [H.laws_szTok]) (by simp only [scT, esT, and_self, true_and, and_true]) ?_
  simp only [gE, ↓gT, ↓reduceIte, reduceCtorEq, reduceAdd, reduceEqDiff, reduceLeDiff, reduceLT, H.laws_szTok]
  refine SemF.seq rfl ?_
  refine SemF.reg true rfl ?_
  try simp only [gE, ↓gT, ↓reduceIte, reduceCtorEq, reduceAdd, reduceEqDiff, reduceLeDiff, reduceLT]; (repeat intro (_ : _ ≤ lim))
  refine SemF.seq rfl ?_
  refine SemF.reg true rfl ?_
  try simp only [gE, ↓gT, ↓reduceIte, reduceCtorEq, reduceAdd, reduceEqDiff, reduceLeDiff, reduceLT]; (repeat intro (_ : _ ≤ lim))
  (repeat intro (_ : _ ≤ lim))
  refine SemF.seq rfl ?_
  refine SemF.seq rfl ?_
  refine SemF.reg true rfl ?_
  try simp only [gE, ↓gT, ↓reduceIte, reduceCtorEq, reduceAdd, reduceEqDiff, reduceLeDiff, reduceLT]; (repeat intro (_ : _ ≤ lim))
  by_cases hc1 : (IntKind.i64.wrap (p1 - ((p0.S.size : Nat) : Int))) < 0
  · rw [if_pos hc1] at h
    refine SemF.cond rfl ?_
    simp only [gE, ↓gT, ↓reduceIte, reduceCtorEq, reduceAdd, reduceEqDiff, reduceLeDiff, reduceLT, eq_true hc1]
    refine SemF.seq rfl ?_
    refine SemF.reg true rfl ?_
    try simp only [gE, ↓gT, ↓reduceIte, reduceCtorEq, reduceAdd, reduceEqDiff, reduceLeDiff, reduceLT, eq_true hc1]; (repeat intro (_ : _ ≤ lim))
    refine SemF.ret rfl ?_
    try simp only [gE, ↓gT, ↓reduceIte, reduceCtorEq, reduceAdd, reduceEqDiff, reduceLeDiff, reduceLT, eq_true hc1]; (repeat intro (_ : _ ≤ lim))
    obtain rfl := Option.some.inj h
    simp only [gE, ↓gT, ↓reduceIte, reduceCtorEq, reduceAdd, reduceEqDiff, reduceLeDiff, reduceLT, RetP_def, eq_true hc1]
  · rw [if_neg hc1] at h
    refine SemF.cond rfl ?_
    simp only [gE, ↓gT, ↓reduceIte, reduceCtorEq, reduceAdd, reduceEqDiff, reduceLeDiff, reduceLT, eq_false hc1]
    refine SemF.skip rfl ?_
    simp only [gE, ↓gT, ↓reduceIte, reduceCtorEq, reduceAdd, reduceEqDiff, reduceLeDiff, reduceLT, eq_false hc1]
    refine SemF.seq rfl ?_
    refine SemF.reg true rfl ?_
    try simp only [gE, ↓gT, ↓reduceIte, reduceCtorEq, reduceAdd, reduceEqDiff, reduceLeDiff, reduceLT, eq_false hc1]; (repeat intro (_ : _ ≤ lim))
    refine SemF.ret rfl ?_
    try simp only [gE, ↓gT, ↓reduceIte, reduceCtorEq, reduceAdd, reduceEqDiff, reduceLeDiff, reduceLT, eq_false hc1]; (repeat intro (_ : _ ≤ lim))
    obtain rfl := Option.some.inj h
    simp only [gE, ↓gT, ↓reduceIte, reduceCtorEq, reduceAdd, reduceEqDiff, reduceLeDiff, reduceLT, RetP_def, eq_false hc1]
theorem laws_szTokS_L0 : ∀ (x : ((List Tok) × Int × Int)) (out : (Sum Int Int)), M.laws_szTokS_L0 x = some out → ∀ Q : HExit → Env → St → Prop, (∀ v, out = .inr v → ∀ env st sel, Weak 0 sel [(1, (.int .i64 v))] [] env st → Q (.exit 0) env st) → (∀ r, out = .inl r → ∀ env st, RetP [(4, none)] (HV.int .i64 r) env st → Q .ret env st) → SemL P H.laws_szTokS.ntmps 0 H.laws_szTokS_l6 [(0, (.sl (List.map Tok.enc x.1))), (1, (.int .i64 x.2.1)), (5, (.int .i64 x.2.2))] [] Q := by
  refine M.laws_szTokS_L0.partial_correctness (motive := fun x out => ∀ Q : HExit → Env → St → Prop, (∀ v, out = .inr v → ∀ env st sel, Weak 0 sel [(1, (.int .i64 v))] [] env st → Q (.exit 0) env st) → (∀ r, out = .inl r → ∀ env st, RetP [(4, none)] (HV.int .i64 r) env st → Q .ret env st) → SemL P H.laws_szTokS.ntmps 0 H.laws_szTokS_l6 [(0, (.sl (List.map Tok.enc x.1))), (1, (.int .i64 x.2.1)), (5, (.int .i64 x.2.2))] [] Q) ?_
  intro f_laws_szTokS_L0 ih_laws_szTokS_L0 x out h
  obtain ⟨p0, t1_L0, t5_L0⟩ := x
  try dsimp only at h
  intro Q hx hr
  refine SemL.round ?_
  try dsimp only at hx
  refine SemF.seq rfl ?_
  refine SemF.seq rfl ?_
  refine SemF.reg true rfl ?_
  try simp only [gE, ↓gT, ↓reduceIte, reduceCtorEq, reduceAdd, reduceEqDiff, reduceLeDiff, reduceLT]; (repeat intro (_ : _ ≤ lim))
  (repeat intro (_ : _ ≤ lim))
  by_cases hc6 : t5_L0 < ((p0.length : Nat) : Int)
  · rw [if_pos hc6] at h
    refine SemF.cond rfl ?_
    simp only [gE, ↓gT, ↓reduceIte, reduceCtorEq, reduceAdd, reduceEqDiff, reduceLeDiff, reduceLT, eq_true hc6]
    refine SemF.skip rfl ?_
    simp only [gE, ↓gT, ↓reduceIte, reduceCtorEq, reduceAdd, reduceEqDiff, reduceLeDiff, reduceLT, eq_true hc6]
    refine SemF.seq rfl ?_
    refine SemF.block rfl ?_
    refine SemF.seq rfl ?_
    refine SemF.reg true rfl ?_
    try simp only [gE, ↓gT, ↓reduceIte, reduceCtorEq, reduceAdd, reduceEqDiff, reduceLeDiff, reduceLT, eq_true hc6]; (repeat intro (_ : _ ≤ lim))
    obtain ⟨e7, h_e7, h⟩ := bs h
    have m_e7 := ixm (f := Tok.enc) (ix_get h_e7)
    try simp only [gE, ↓gT, ↓reduceIte, reduceCtorEq, reduceAdd, reduceEqDiff, reduceLeDiff, reduceLT, eq_true hc6, eq_true (ix_nn h_e7), m_e7]; (repeat intro (_ : _ ≤ lim))
    obtain ⟨r8, h_r8, h⟩ := bs h
    refine HCp.callE (K.laws_szTok (e7, t1_L0) r8 h_r8) (by simp only [gE, ↓gT, ↓reduceIte, reduceCtorEq, reduceAdd, reduceEqDiff, reduceLeDiff, reduceLT, eq_true hc6, eq_true (ix_nn h_e7), m_e7]) (by simp only [scT, esT, and_self, true_and, and_true]) (by simp only [scT, esT, and_self, true_and, and_true]) ?_
    try simp only [gE, ↓gT, ↓reduceIte, reduceCtorEq, reduceAdd, reduceEqDiff, reduceLeDiff, reduceLT, eq_true hc6, eq_true (ix_nn h_e7), m_e7]; (repeat intro (_ : _ ≤ lim))
    refine SemF.seq rfl ?_
    refine SemF.reg true rfl ?_
    try simp only [gE, ↓gT, ↓reduceIte, reduceCtorEq, reduceAdd, reduceEqDiff, reduceLeDiff, reduceLT, eq_true hc6, eq_true (ix_nn h_e7), m_e7]; (repeat intro (_ : _ ≤ lim))
    by_cases hc9 : r8 < 0
    · rw [if_pos hc9] at h
      refine SemF.cond rfl ?_
      simp only [gE, ↓gT, ↓reduceIte, reduceCtorEq, reduceAdd, reduceEqDiff, reduceLeDiff, reduceLT, eq_true hc6, eq_true (ix_nn h_e7), m_e7, eq_true hc9]
      refine SemF.seq rfl ?_
      refine SemF.reg true rfl ?_
      try simp only [gE, ↓gT, ↓reduceIte, reduceCtorEq, reduceAdd, reduceEqDiff, reduceLeDiff, reduceLT, eq_true hc6, eq_true (ix_nn h_e7), m_e7, eq_true hc9]; (repeat intro (_ : _ ≤ lim))
      refine SemF.ret rfl ?_
      try simp only [gE, ↓gT, ↓reduceIte, reduceCtorEq, reduceAdd, reduceEqDiff, reduceLeDiff, reduceLT, eq_true hc6, eq_true (ix_nn h_e7), m_e7, eq_true hc9]; (repeat intro (_ : _ ≤ lim))
      obtain rfl := Option.some.inj h
      refine hr _ rfl _ _ ?_
      simp only [gE, ↓gT, ↓reduceIte, reduceCtorEq, reduceAdd, reduceEqDiff, reduceLeDiff, reduceLT, RetP_def, eq_true hc6, eq_true (ix_nn h_e7), m_e7, eq_true hc9]
    · rw [if_neg hc9] at h
      refine SemF.cond rfl ?_
      simp only [gE, ↓gT, ↓reduceIte, reduceCtorEq, reduceAdd, reduceEqDiff, reduceLeDiff, reduceLT, eq_true hc6, eq_true (ix_nn h_e7), m_e7, eq_false hc9]
      refine SemF.skip rfl ?_
      simp only [gE, ↓gT, ↓reduceIte, reduceCtorEq, reduceAdd, reduceEqDiff, reduceLeDiff, reduceLT, eq_true hc6, eq_true (ix_nn h_e7), m_e7, eq_false hc9]
      refine SemF.reg true rfl ?_
      try simp only [gE, ↓gT, ↓reduceIte, reduceCtorEq, reduceAdd, reduceEqDiff, reduceLeDiff, reduceLT, eq_true hc6, eq_true (ix_nn h_e7), m_e7, eq_false hc9]; (repeat intro (_ : _ ≤ lim))
      refine SemL.weak (sel := []) ⟨by simp only [gE, ↓gT, ↓reduceIte, reduceCtorEq, reduceAdd, reduceEqDiff, reduceLeDiff, reduceLT, hwT, selS, erT, eq_true hc6, eq_true (ix_nn h_e7), m_e7, eq_false hc9], by decide, by decide, by simp only [gE, ↓gT, ↓reduceIte, reduceCtorEq, reduceAdd, reduceEqDiff, reduceLeDiff, reduceLT, hwT, selS, erT, subR, eq_true hc6, eq_true (ix_nn h_e7), m_e7, eq_false hc9], by simp only [gE, ↓gT, ↓reduceIte, reduceCtorEq, reduceAdd, reduceEqDiff, reduceLeDiff, reduceLT, hwT, selS, erT, scT, esT, eq_true hc6, eq_true (ix_nn h_e7), m_e7, eq_false hc9], by simp only [gE, ↓gT, ↓reduceIte, reduceCtorEq, reduceAdd, reduceEqDiff, reduceLeDiff, reduceLT, hwT, selS, erT, scT, esT, eq_true hc6, eq_true (ix_nn h_e7), m_e7, eq_false hc9]⟩ (ih_laws_szTokS_L0 (p0, r8, (IntKind.i64.wrap (t5_L0 + 1))) out h Q hx hr)
  · rw [if_neg hc6] at h
    refine SemF.cond rfl ?_
    simp only [gE, ↓gT, ↓reduceIte, reduceCtorEq, reduceAdd, reduceEqDiff, reduceLeDiff, reduceLT, eq_false hc6]
    refine SemF.exit rfl ?_
    simp only [gE, ↓gT, ↓reduceIte, reduceCtorEq, reduceAdd, reduceEqDiff, reduceLeDiff, reduceLT, eq_false hc6]
    obtain rfl := Option.some.inj h
    refine hx _ rfl _ _ [] ⟨by simp only [gE, ↓gT, ↓reduceIte, reduceCtorEq, reduceAdd, reduceEqDiff, reduceLeDiff, reduceLT, hwT, selS, erT, eq_false hc6], by decide, by decide, by simp only [gE, ↓gT, ↓reduceIte, reduceCtorEq, reduceAdd, reduceEqDiff, reduceLeDiff, reduceLT, hwT, selS, erT, subR, eq_false hc6], by simp only [gE, ↓gT, ↓reduceIte, reduceCtorEq, reduceAdd, reduceEqDiff, reduceLeDiff, reduceLT, hwT, selS, erT, scT, esT, eq_false hc6], by simp only [gE, ↓gT, ↓reduceIte, reduceCtorEq, reduceAdd, reduceEqDiff, reduceLeDiff, reduceLT, hwT, selS, erT, scT, esT, eq_false hc6]⟩
end K
end W
