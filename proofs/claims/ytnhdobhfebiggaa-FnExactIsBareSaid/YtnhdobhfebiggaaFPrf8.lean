import Derived.Test.YtnhdobhfebiggaaFPrf7
namespace W
set_option linter.unusedSimpArgs false
set_option linter.unusedVariables false
open Go HL S
open Nat (reduceAdd reduceEqDiff reduceLeDiff reduceSub reduceMul reduceLT)
set_option linter.unusedVariables false
set_option maxRecDepth 100000
set_option maxHeartbeats 4000000
namespace K
theorem laws_eqStringS_L0 : ∀ (x : ((List ByteArray) × (List ByteArray) × Int)) (out : (Sum Bool Unit)), M.laws_eqStringS_L0 x = some out → ∀ Q : HExit → Env → St → Prop, (∀ v, out = .inr v → ∀ env st sel, Weak 0 sel [] [] env st → Q (.exit 0) env st) → (∀ r, out = .inl r → ∀ env st, RetP [(4, none)] (HV.bool r) env st → Q .ret env st) → SemL P H.laws_eqStringS.ntmps 0 H.laws_eqStringS_l5 [(0, (.sl (List.map HV.str x.1))), (1, (.sl (List.map HV.str x.2.1))), (5, (.int .i64 x.2.2))] [] Q := by
  refine M.laws_eqStringS_L0.partial_correctness (motive := fun x out => ∀ Q : HExit → Env → St → Prop, (∀ v, out = .inr v → ∀ env st sel, Weak 0 sel [] [] env st → Q (.exit 0) env st) → (∀ r, out = .inl r → ∀ env st, RetP [(4, none)] (HV.bool r) env st → Q .ret env st) → SemL P H.laws_eqStringS.ntmps 0 H.laws_eqStringS_l5 [(0, (.sl (List.map HV.str x.1))), (1, (.sl (List.map HV.str x.2.1))), (5, (.int .i64 x.2.2))] [] Q) ?_
  intro f_laws_eqStringS_L0 ih_laws_eqStringS_L0 x out h
  obtain ⟨p0, p1, t5_L0⟩ := x
  try dsimp only at h
  intro Q hx hr
  refine SemL.round ?_
  try dsimp only at hx
  refine SemF.seq rfl ?_
  refine SemF.seq rfl ?_
  refine SemF.reg true rfl ?_
  try simp only [gE, ↓gT, ↓reduceIte, reduceCtorEq, reduceAdd, reduceEqDiff, reduceLeDiff, reduceLT]; (repeat intro (_ : _ ≤ lim))
  (repeat intro (_ : _ ≤ lim))
  by_cases hc6 : t5_L0 < ((p0.length : Nat) : Int)
  · rw [if_pos hc6] at h
    refine SemF.cond rfl ?_
    simp only [gE, ↓gT, ↓reduceIte, reduceCtorEq, reduceAdd, reduceEqDiff, reduceLeDiff, reduceLT, eq_true hc6]
    refine SemF.skip rfl ?_
    simp only [gE, ↓gT, ↓reduceIte, reduceCtorEq, reduceAdd, reduceEqDiff, reduceLeDiff, reduceLT, eq_true hc6]
    refine SemF.seq rfl ?_
    refine SemF.block rfl ?_
    refine SemF.seq rfl ?_
    refine SemF.dreg true rfl ?_
    try simp only [gE, ↓gT, ↓reduceIte, reduceCtorEq, reduceAdd, reduceEqDiff, reduceLeDiff, reduceLT, eq_true hc6]; (repeat intro (_ : _ ≤ lim))
    obtain ⟨e7, h_e7, h⟩ := bs h
    have m_e7 := ixm (f := HV.str) (ix_get h_e7)
    try simp only [gE, ↓gT, ↓reduceIte, reduceCtorEq, reduceAdd, reduceEqDiff, reduceLeDiff, reduceLT, eq_true hc6, eq_true (ix_nn h_e7), m_e7]; (repeat intro (_ : _ ≤ lim))
    obtain ⟨e8, h_e8, h⟩ := bs h
    have m_e8 := ixm (f := HV.str) (ix_get h_e8)
    try simp only [gE, ↓gT, ↓reduceIte, reduceCtorEq, reduceAdd, reduceEqDiff, reduceLeDiff, reduceLT, eq_true hc6, eq_true (ix_nn h_e7), m_e7, eq_true (ix_nn h_e8), m_e8]; (repeat intro (_ : _ ≤ lim))
    by_cases hc9 : e7 = e8
    · rw [if_pos hc9] at h
      refine SemF.cond rfl ?_
      simp only [gE, ↓gT, ↓reduceIte, reduceCtorEq, reduceAdd, reduceEqDiff, reduceLeDiff, reduceLT, eq_true hc6, eq_true (ix_nn h_e7), m_e7, eq_true (ix_nn h_e8), m_e8, eq_true hc9]
      refine SemF.skip rfl ?_
      simp only [gE, ↓gT, ↓reduceIte, reduceCtorEq, reduceAdd, reduceEqDiff, reduceLeDiff, reduceLT, eq_true hc6, eq_true (ix_nn h_e7), m_e7, eq_true (ix_nn h_e8), m_e8, eq_true hc9]
      refine SemF.reg true rfl ?_
      try simp only [gE, ↓gT, ↓reduceIte, reduceCtorEq, reduceAdd, reduceEqDiff, reduceLeDiff, reduceLT, eq_true hc6, eq_true (ix_nn h_e7), m_e7, eq_true (ix_nn h_e8), m_e8, eq_true hc9]; (repeat intro (_ : _ ≤ lim))
      refine SemL.weak (sel := []) ⟨by simp only [gE, ↓gT, ↓reduceIte, reduceCtorEq, reduceAdd, reduceEqDiff, reduceLeDiff, reduceLT, hwT, selS, erT, eq_true hc6, eq_true (ix_nn h_e7), m_e7, eq_true (ix_nn h_e8), m_e8, eq_true hc9], by decide, by decide, by simp only [gE, ↓gT, ↓reduceIte, reduceCtorEq, reduceAdd, reduceEqDiff, reduceLeDiff, reduceLT, hwT, selS, erT, subR, eq_true hc6, eq_true (ix_nn h_e7), m_e7, eq_true (ix_nn h_e8), m_e8, eq_true hc9], by simp only [gE, ↓gT, ↓reduceIte, reduceCtorEq, reduceAdd, reduceEqDiff, reduceLeDiff, reduceLT, hwT, selS, erT, scT, esT, eq_true hc6, eq_true (ix_nn h_e7), m_e7, eq_true (ix_nn h_e8), m_e8, eq_true hc9], by simp only [gE, ↓gT, ↓reduceIte, reduceCtorEq, reduceAdd, reduceEqDiff, reduceLeDiff, reduceLT, hwT, selS, erT, scT, esT, eq_true hc6, eq_true (ix_nn h_e7), m_e7, eq_true (ix_nn h_e8), m_e8, eq_true hc9]⟩ (ih_laws_eqStringS_L0 (p0, p1, (IntKind.i64.wrap (t5_L0 + 1))) out h Q hx hr)
    · rw [if_neg hc9] at h
      refine SemF.cond rfl ?_
      simp only [gE, ↓gT, ↓reduceIte, reduceCtorEq, reduceAdd, reduceEqDiff, reduceLeDiff, reduceLT, eq_true hc6, eq_true (ix_nn h_e7), m_e7, eq_true (ix_nn h_e8), m_e8, eq_false hc9]
      refine SemF.seq rfl ?_
      refine SemF.reg true rfl ?_
      try simp only [gE, ↓gT, ↓reduceIte, reduceCtorEq, reduceAdd, reduceEqDiff, reduceLeDiff, reduceLT, eq_true hc6, eq_true (ix_nn h_e7), m_e7, eq_true (ix_nn h_e8), m_e8, eq_false hc9]; (repeat intro (_ : _ ≤ lim))
      refine SemF.ret rfl ?_
      try simp only [gE, ↓gT, ↓reduceIte, reduceCtorEq, reduceAdd, reduceEqDiff, reduceLeDiff, reduceLT, eq_true hc6, eq_true (ix_nn h_e7), m_e7, eq_true (ix_nn h_e8), m_e8, eq_false hc9]; (repeat intro (_ : _ ≤ lim))
      obtain rfl := Option.some.inj h
      refine hr _ rfl _ _ ?_
      simp only [gE, ↓gT, ↓reduceIte, reduceCtorEq, reduceAdd, reduceEqDiff, reduceLeDiff, reduceLT, RetP_def, eq_true hc6, eq_true (ix_nn h_e7), m_e7, eq_true (ix_nn h_e8), m_e8, eq_false hc9]
  · rw [if_neg hc6] at h
    refine SemF.cond rfl ?_
    simp only [gE, ↓gT, ↓reduceIte, reduceCtorEq, reduceAdd, reduceEqDiff, reduceLeDiff, reduceLT, eq_false hc6]
    refine SemF.exit rfl ?_
    simp only [gE, ↓gT, ↓reduceIte, reduceCtorEq, reduceAdd, reduceEqDiff, reduceLeDiff, reduceLT, eq_false hc6]
    obtain rfl := Option.some.inj h
    refine hx _ rfl _ _ [] ⟨by simp only [gE, ↓gT, ↓reduceIte, reduceCtorEq, reduceAdd, reduceEqDiff, reduceLeDiff, reduceLT, hwT, selS, erT, eq_false hc6], by decide, by decide, by simp only [gE, ↓gT, ↓reduceIte, reduceCtorEq, reduceAdd, reduceEqDiff, reduceLeDiff, reduceLT, hwT, selS, erT, subR, eq_false hc6], by simp only [gE, ↓gT, ↓reduceIte, reduceCtorEq, reduceAdd, reduceEqDiff, reduceLeDiff, reduceLT, hwT, selS, erT, scT, esT, eq_false hc6], by simp only [gE, ↓gT, ↓reduceIte, reduceCtorEq, reduceAdd, reduceEqDiff, reduceLeDiff, reduceLT, hwT, selS, erT, scT, esT, eq_false hc6]⟩
theorem laws_eqStringS : ∀ (x : ((List ByteArray) × (List ByteArray))) (r : Bool), M.laws_eqStringS x = some r → HCp P F.laws_eqStringS [(.sl (List.map HV.str x.1)), (.sl (List.map HV.str x.2))] (HV.bool r) := by
  intro x r h
  obtain ⟨p0, p1⟩ := x
  unfold M.laws_eqStringS at h
  try dsimp only at h
  refine HCp.mkF S.laws_eqStringS (by simp [H.laws_eqStringS]) (by simp only [scT, esT, and_self, true_and, and_true]) ?_
  simp only [gE, ↓gT, ↓reduceIte, reduceCtorEq, reduceAdd, reduceEqDiff, reduceLeDiff, reduceLT, H.laws_eqStringS]
  refine SemF.seq rfl ?_
  refine SemF.reg true rfl ?_
  try simp only [gE, ↓gT, ↓reduceIte, reduceCtorEq, reduceAdd, reduceEqDiff, reduceLeDiff, reduceLT]; (repeat intro (_ : _ ≤ lim))
  refine SemF.seq rfl ?_
  refine SemF.seq rfl ?_
  refine SemF.reg true rfl ?_
  try simp only [gE, ↓gT, ↓reduceIte, reduceCtorEq, reduceAdd, reduceEqDiff, reduceLeDiff, reduceLT]; (repeat intro (_ : _ ≤ lim))
  (repeat intro (_ : _ ≤ lim))
  (repeat intro (_ : _ ≤ lim))
  by_cases hc1 : ((p0.length : Nat) : Int) = ((p1.length : Nat) : Int)
  · rw [if_pos hc1] at h
    refine SemF.cond rfl ?_
    simp only [gE, ↓gT, ↓reduceIte, reduceCtorEq, reduceAdd, reduceEqDiff, reduceLeDiff, reduceLT, eq_true hc1]
    refine SemF.skip rfl ?_
    simp only [gE, ↓gT, ↓reduceIte, reduceCtorEq, reduceAdd, reduceEqDiff, reduceLeDiff, reduceLT, eq_true hc1]
    refine SemF.seq rfl ?_
    refine SemF.seq rfl ?_
    refine SemF.reg true rfl ?_
    try simp only [gE, ↓gT, ↓reduceIte, reduceCtorEq, reduceAdd, reduceEqDiff, reduceLeDiff, reduceLT, eq_true hc1]; (repeat intro (_ : _ ≤ lim))
    refine SemF.block rfl ?_
    obtain ⟨s10, h_s10, h⟩ := bs h
    rcases s10 with r11 | v12
    · dsimp only at h
      refine SemF.loop rfl ?_
      refine SemL.weak (sel := []) ⟨by simp only [gE, ↓gT, ↓reduceIte, reduceCtorEq, reduceAdd, reduceEqDiff, reduceLeDiff, reduceLT, hwT, selS, erT, eq_true hc1], by decide, by decide, by simp only [gE, ↓gT, ↓reduceIte, reduceCtorEq, reduceAdd, reduceEqDiff, reduceLeDiff, reduceLT, hwT, selS, erT, subR, eq_true hc1], by simp only [gE, ↓gT, ↓reduceIte, reduceCtorEq, reduceAdd, reduceEqDiff, reduceLeDiff, reduceLT, hwT, selS, erT, scT, esT, eq_true hc1], by simp only [gE, ↓gT, ↓reduceIte, reduceCtorEq, reduceAdd, reduceEqDiff, reduceLeDiff, reduceLT, hwT, selS, erT, scT, esT, eq_true hc1]⟩ (K.laws_eqStringS_L0 (p0, p1, 0) (.inl r11) h_s10 _ ?_ ?_)
      · intro v hv; cases hv
      · intro r' hr' env st hy
        cases hr'
        simp only [gE, ↓gT, ↓reduceIte, reduceCtorEq, reduceAdd, reduceEqDiff, reduceLeDiff, reduceLT]
        obtain rfl := Option.some.inj h
        exact hy
    · dsimp only at h
      refine SemF.loop rfl ?_
      refine SemL.weak (sel := []) ⟨by simp only [gE, ↓gT, ↓reduceIte, reduceCtorEq, reduceAdd, reduceEqDiff, reduceLeDiff, reduceLT, hwT, selS, erT, eq_true hc1], by decide, by decide, by simp only [gE, ↓gT, ↓reduceIte, reduceCtorEq, reduceAdd, reduceEqDiff, reduceLeDiff, reduceLT, hwT, selS, erT, subR, eq_true hc1], by simp only [gE, ↓gT, ↓reduceIte, reduceCtorEq, reduceAdd, reduceEqDiff, reduceLeDiff, reduceLT, hwT, selS, erT, scT, esT, eq_true hc1], by simp only [gE, ↓gT, ↓reduceIte, reduceCtorEq, reduceAdd, reduceEqDiff, reduceLeDiff, reduceLT, hwT, selS, erT, scT, esT, eq_true hc1]⟩ (K.laws_eqStringS_L0 (p0, p1, 0) (.inr v12) h_s10 _ ?_ ?_)
      rotate_left
      · intro r' hr'; cases hr'
      intro v hv env st sel hw
      cases hv
      simp only [gE, ↓gT, ↓reduceIte, reduceCtorEq, reduceAdd, reduceEqDiff, reduceLeDiff, reduceLT]
      first | refine SemF.weak hw ?_ | refine SemL.weak hw ?_
      refine SemF.seq rfl ?_
      refine SemF.reg true rfl ?_
      try simp only [gE, ↓gT, ↓reduceIte, reduceCtorEq, reduceAdd, reduceEqDiff, reduceLeDiff, reduceLT, eq_true hc1]; (repeat intro (_ : _ ≤ lim))
      refine SemF.ret rfl ?_
      try simp only [gE, ↓gT, ↓reduceIte, reduceCtorEq, reduceAdd, reduceEqDiff, reduceLeDiff, reduceLT, eq_true hc1]; (repeat intro (_ : _ ≤ lim))
      obtain rfl := Option.some.inj h
      simp only [gE, ↓gT, ↓reduceIte, reduceCtorEq, reduceAdd, reduceEqDiff, reduceLeDiff, reduceLT, RetP_def, eq_true hc1]
  · rw [if_neg hc1] at h
    refine SemF.cond rfl ?_
    simp only [gE, ↓gT, ↓reduceIte, reduceCtorEq, reduceAdd, reduceEqDiff, reduceLeDiff, reduceLT, eq_false hc1]
    refine SemF.seq rfl ?_
    refine SemF.reg true rfl ?_
    try simp only [gE, ↓gT, ↓reduceIte, reduceCtorEq, reduceAdd, reduceEqDiff, reduceLeDiff, reduceLT, eq_false hc1]; (repeat intro (_ : _ ≤ lim))
    refine SemF.ret rfl ?_
    try simp only [gE, ↓gT, ↓reduceIte, reduceCtorEq, reduceAdd, reduceEqDiff, reduceLeDiff, reduceLT, eq_false hc1]; (repeat intro (_ : _ ≤ lim))
    obtain rfl := Option.some.inj h
    simp only [gE, ↓gT, ↓reduceIte, reduceCtorEq, reduceAdd, reduceEqDiff, reduceLeDiff, reduceLT, RetP_def, eq_false hc1]
theorem laws_eqAlt_step (f_laws_eqExp : (Exp × Exp) → Option Bool) (ih_laws_eqExp : ∀ (x : (Exp × Exp)) (r : Bool), f_laws_eqExp x = some r → HCp P F.laws_eqExp [(Exp.enc x.1), (Exp.enc x.2)] (HV.bool r)) (x : (Alt × Alt)) (r : Bool) (h : (if x.1.Great = x.2.Great then (M.laws_eqStringS (x.1.Vars, x.2.Vars) >>= fun r2 =>
    (if r2 = true then (f_laws_eqExp (x.1.E, x.2.E) >>= fun r4 =>
    (if r4 = true then some true else
    some false)) else
    some false)) else
    some false) = some r) : HCp P F.laws_eqAlt [(Alt.enc x.1), (Alt.enc x.2)] (HV.bool r) := by
  obtain ⟨p0, p1⟩ := x
  try dsimp only at h
  refine HCp.mkF S.laws_eqAlt (by simp [H.laws_eqAlt]) (by simp only [scT, esT, and_self, true_and, and_true]) ?_
  simp only [gE, ↓gT, ↓reduceIte, reduceCtorEq, reduceAdd, reduceEqDiff, reduceLeDiff, reduceLT, H.laws_eqAlt]
  refine SemF.seq rfl ?_
  refine SemF.reg true rfl ?_
  try simp only [gE, ↓gT, ↓reduceIte, reduceCtorEq, reduceAdd, reduceEqDiff, reduceLeDiff, reduceLT]; (repeat intro (_ : _ ≤ lim))
  refine SemF.seq rfl ?_
  refine SemF.seq rfl ?_
  refine SemF.reg true rfl ?_
  try simp only [gE, ↓gT, ↓reduceIte, reduceCtorEq, reduceAdd, reduceEqDiff, reduceLeDiff, reduceLT]; (repeat intro (_ : _ ≤ lim))
  by_cases hc1 : p0.Great = p1.Great
  · rw [if_pos hc1] at h
    refine SemF.cond rfl ?_
    simp only [gE, ↓gT, ↓reduceIte, reduceCtorEq, reduceAdd, reduceEqDiff, reduceLeDiff, reduceLT, eq_true hc1]
    refine SemF.skip rfl ?_
    simp only [gE, ↓gT, ↓reduceIte, reduceCtorEq, reduceAdd, reduceEqDiff, reduceLeDiff, reduceLT, eq_true hc1]
    refine SemF.seq rfl ?_
    refine SemF.seq rfl ?_
    refine SemF.reg true rfl ?_
    try simp only [gE, ↓gT, ↓reduceIte, reduceCtorEq, reduceAdd, reduceEqDiff, reduceLeDiff, reduceLT, eq_true hc1]; (repeat intro (_ : _ ≤ lim))
    obtain ⟨r2, h_r2, h⟩ := bs h
    refine HCp.callE (K.laws_eqStringS (p0.Vars, p1.Vars) r2 h_r2) (by simp only [gE, ↓gT, ↓reduceIte, reduceCtorEq, reduceAdd, reduceEqDiff, reduceLeDiff, reduceLT, eq_true hc1]) (by simp only [scT, esT, and_self, true_and, and_true]) (by simp only [scT, esT, and_self, true_and, and_true]) ?_
    try simp only [gE, ↓gT, ↓reduceIte, reduceCtorEq, reduceAdd, reduceEqDiff, reduceLeDiff, reduceLT, eq_true hc1]; (repeat intro (_ : _ ≤ lim))
    by_cases hc3 : r2 = true
    · rw [if_pos hc3] at h
      refine SemF.cond rfl ?_
      simp only [gE, ↓gT, ↓reduceIte, reduceCtorEq, reduceAdd, reduceEqDiff, reduceLeDiff, reduceLT, eq_true hc1, hc3]
      refine SemF.skip rfl ?_
      simp only [gE, ↓gT, ↓reduceIte, reduceCtorEq, reduceAdd, reduceEqDiff, reduceLeDiff, reduceLT, eq_true hc1, hc3]
      refine SemF.seq rfl ?_
      refine SemF.seq rfl ?_
      refine SemF.reg true rfl ?_
      try simp only [gE, ↓gT, ↓reduceIte, reduceCtorEq, reduceAdd, reduceEqDiff, reduceLeDiff, reduceLT, eq_true hc1, hc3]; (repeat intro (_ : _ ≤ lim))
      obtain ⟨r4, h_r4, h⟩ := bs h
      refine HCp.callE (ih_laws_eqExp (p0.E, p1.E) r4 h_r4) (by simp only [gE, ↓gT, ↓reduceIte, reduceCtorEq, reduceAdd, reduceEqDiff, reduceLeDiff, reduceLT, eq_true hc1, hc3]) (by simp only [scT, esT, and_self, true_and, and_true]) (by simp only [scT, esT, and_self, true_and, and_true]) ?_
      try simp only [gE, ↓gT, ↓reduceIte, reduceCtorEq, reduceAdd, reduceEqDiff, reduceLeDiff, reduceLT, eq_true hc1, hc3]; (repeat intro (_ : _ ≤ lim))
      by_cases hc5 : r4 = true
      · rw [if_pos hc5] at h
        refine SemF.cond rfl ?_
        simp only [gE, ↓gT, ↓reduceIte, reduceCtorEq, reduceAdd, reduceEqDiff, reduceLeDiff, reduceLT, eq_true hc1, hc3, hc5]
        refine SemF.skip rfl ?_
        simp only [gE, ↓gT, ↓reduceIte, reduceCtorEq, reduceAdd, reduceEqDiff, reduceLeDiff, reduceLT, eq_true hc1, hc3, hc5]
        refine SemF.seq rfl ?_
        refine SemF.reg true rfl ?_
        try simp only [gE, ↓gT, ↓reduceIte, reduceCtorEq, reduceAdd, reduceEqDiff, reduceLeDiff, reduceLT, eq_true hc1, hc3, hc5]; (repeat intro (_ : _ ≤ lim))
        refine SemF.ret rfl ?_
        try simp only [gE, ↓gT, ↓reduceIte, reduceCtorEq, reduceAdd, reduceEqDiff, reduceLeDiff, reduceLT, eq_true hc1, hc3, hc5]; (repeat intro (_ : _ ≤ lim))
        obtain rfl := Option.some.inj h
        simp only [gE, ↓gT, ↓reduceIte, reduceCtorEq, reduceAdd, reduceEqDiff, reduceLeDiff, reduceLT, RetP_def, eq_true hc1, hc3, hc5]
      · rw [if_neg hc5] at h
        replace hc5 := eq_false_of_ne_true hc5
        refine SemF.cond rfl ?_
        simp only [gE, ↓gT, ↓reduceIte, reduceCtorEq, reduceAdd, reduceEqDiff, reduceLeDiff, reduceLT, eq_true hc1, hc3, hc5]
        refine SemF.seq rfl ?_
        refine SemF.reg true rfl ?_
        try simp only [gE, ↓gT, ↓reduceIte, reduceCtorEq, reduceAdd, reduceEqDiff, reduceLeDiff, reduceLT, eq_true hc1, hc3, hc5]; (repeat intro (_ : _ ≤ lim))
        refine SemF.ret rfl ?_
        try simp only [gE, ↓gT, ↓reduceIte, reduceCtorEq, reduceAdd, reduceEqDiff, reduceLeDiff, reduceLT, eq_true hc1, hc3, hc5]; (repeat intro (_ : _ ≤ lim))
        obtain rfl := Option.some.inj h
        simp only [gE, ↓gT, ↓reduceIte, reduceCtorEq, reduceAdd, reduceEqDiff, reduceLeDiff, reduceLT, RetP_def, eq_true hc1, hc3, hc5]
    · rw [if_neg hc3] at h
      replace hc3 := eq_false_of_ne_true hc3
      refine SemF.cond rfl ?_
      simp only [gE, ↓gT, ↓reduceIte, reduceCtorEq, reduceAdd, reduceEqDiff, reduceLeDiff, reduceLT, eq_true hc1, hc3]
      refine SemF.seq rfl ?_
      refine SemF.reg true rfl ?_
      try simp only [gE, ↓gT, ↓reduceIte, reduceCtorEq, reduceAdd, reduceEqDiff, reduceLeDiff, reduceLT, eq_true hc1, hc3]; (repeat intro (_ : _ ≤ lim))
      refine SemF.ret rfl ?_
      try simp only [gE, ↓gT, ↓reduceIte, reduceCtorEq, reduceAdd, reduceEqDiff, reduceLeDiff, reduceLT, eq_true hc1, hc3]; (repeat intro (_ : _ ≤ lim))
      obtain rfl := Option.some.inj h
      simp only [gE, ↓gT, ↓reduceIte, reduceCtorEq, reduceAdd, reduceEqDiff, reduceLeDiff, reduceLT, RetP_def, eq_true hc1, hc3]
  · rw [if_neg hc1] at h
    refine SemF.cond rfl ?_
    simp only [gE, ↓gT, ↓reduceIte, reduceCtorEq, reduceAdd, reduceEqDiff, reduceLeDiff, reduceLT, eq_false hc1]
    refine SemF.seq rfl ?_
    refine SemF.reg true rfl ?_
    try simp only [gE, ↓gT, ↓reduceIte, reduceCtorEq, reduceAdd, reduceEqDiff, reduceLeDiff, reduceLT, eq_false hc1]; (repeat intro (_ : _ ≤ lim))
    refine SemF.ret rfl ?_
    try simp only [gE, ↓gT, ↓reduceIte, reduceCtorEq, reduceAdd, reduceEqDiff, reduceLeDiff, reduceLT, eq_false hc1]; (repeat intro (_ : _ ≤ lim))
    obtain rfl := Option.some.inj h
    simp only [gE, ↓gT, ↓reduceIte, reduceCtorEq, reduceAdd, reduceEqDiff, reduceLeDiff, reduceLT, RetP_def, eq_false hc1]
theorem laws_eqExp_step (f_laws_eqAltS : ((List Alt) × (List Alt)) → Option Bool) (f_laws_eqDecS : ((List Dec) × (List Dec)) → Option Bool) (f_laws_eqExpS : ((List Exp) × (List Exp)) → Option Bool) (ih_laws_eqAltS : ∀ (x : ((List Alt) × (List Alt))) (r : Bool), f_laws_eqAltS x = some r → HCp P F.laws_eqAltS [(.sl (List.map Alt.enc x.1)), (.sl (List.map Alt.enc x.2))] (HV.bool r)) (ih_laws_eqDecS : ∀ (x : ((List Dec) × (List Dec))) (r : Bool), f_laws_eqDecS x = some r → HCp P F.laws_eqDecS [(.sl (List.map Dec.enc x.1)), (.sl (List.map Dec.enc x.2))] (HV.bool r)) (ih_laws_eqExpS : ∀ (x : ((List Exp) × (List Exp))) (r : Bool), f_laws_eqExpS x = some r → HCp P F.laws_eqExpS [(.sl (List.map Exp.enc x.1)), (.sl (List.map Exp.enc x.2))] (HV.bool r)) (x : (Exp × Exp)) (r : Bool) (h : (if x.1.K = x.2.K then (if x.1.S = x.2.S then (if x.1.N = x.2.N then (f_laws_eqExpS (x.1.L, x.2.L) >>= fun r4 =>
    (if r4 = true then (f_laws_eqDecS (x.1.Decs, x.2.Decs) >>= fun r6 =>
    (if r6 = true then (f_laws_eqAltS (x.1.Alts, x.2.Alts) >>= fun r8 =>
    (if r8 = true then some true else
    some false)) else
    some false)) else
    some false)) else
    some false) else
    some false) else
    some false) = some r) : HCp P F.laws_eqExp [(Exp.enc x.1), (Exp.enc x.2)] (HV.bool r) := by
  obtain ⟨p0, p1⟩ := x
  try dsimp only at h
  refine HCp.mkF S.laws_eqExp (by simp [H.laws_eqExp]) (by simp only [scT, esT, and_self, true_and, and_true]) ?_
  simp only [gE, ↓gT, ↓reduceIte, reduceCtorEq, reduceAdd, reduceEqDiff, reduceLeDiff, reduceLT, H.laws_eqExp]
  refine SemF.seq rfl ?_
  refine SemF.reg true rfl ?_
  try simp only [gE, ↓gT, ↓reduceIte, reduceCtorEq, reduceAdd, reduceEqDiff, reduceLeDiff, reduceLT]; (repeat intro (_ : _ ≤ lim))
  refine SemF.seq rfl ?_
  refine SemF.seq rfl ?_
  refine SemF.reg true rfl ?_
  try simp only [gE, ↓gT, ↓reduceIte, reduceCtorEq, reduceAdd, reduceEqDiff, reduceLeDiff, reduceLT]; (repeat intro (_ : _ ≤ lim))
  by_cases hc1 : p0.K = p1.K
  · rw [if_pos hc1] at h
    refine SemF.cond rfl ?_
    simp only [gE, ↓gT, ↓reduceIte, reduceCtorEq, reduceAdd, reduceEqDiff, reduceLeDiff, reduceLT, eq_true hc1]
    refine SemF.skip rfl ?_
    simp only [gE, ↓gT, ↓reduceIte, reduceCtorEq, reduceAdd, reduceEqDiff, reduceLeDiff, reduceLT, eq_true hc1]
    refine SemF.seq rfl ?_
    refine SemF.seq rfl ?_
    refine SemF.reg true rfl ?_
    try simp only [gE, ↓gT, ↓reduceIte, reduceCtorEq, reduceAdd, reduceEqDiff, reduceLeDiff, reduceLT, eq_true hc1]; (repeat intro (_ : _ ≤ lim))
    by_cases hc2 : p0.S = p1.S
    · rw [if_pos hc2] at h
      refine SemF.cond rfl ?_
      simp only [gE, ↓gT, ↓reduceIte, reduceCtorEq, reduceAdd, reduceEqDiff, reduceLeDiff, reduceLT, eq_true hc1, eq_true hc2]
      refine SemF.skip rfl ?_
      simp only [gE, ↓gT, ↓reduceIte, reduceCtorEq, reduceAdd, reduceEqDiff, reduceLeDiff, reduceLT, eq_true hc1, eq_true hc2]
      refine SemF.seq rfl ?_
      refine SemF.seq rfl ?_
      refine SemF.reg true rfl ?_
      try simp only [gE, ↓gT, ↓reduceIte, reduceCtorEq, reduceAdd, reduceEqDiff, reduceLeDiff, reduceLT, eq_true hc1, eq_true hc2]; (repeat intro (_ : _ ≤ lim))
      by_cases hc3 : p0.N = p1.N
      · rw [if_pos hc3] at h
        refine SemF.cond rfl ?_
        simp only [gE, ↓gT, ↓reduceIte, reduceCtorEq, reduceAdd, reduceEqDiff, reduceLeDiff, reduceLT, eq_true hc1, eq_true hc2, eq_true hc3]
        refine SemF.skip rfl ?_
        simp only [gE, ↓gT, ↓reduceIte, reduceCtorEq, reduceAdd, reduceEqDiff, reduceLeDiff, reduceLT, eq_true hc1, eq_true hc2, eq_true hc3]
        refine SemF.seq rfl ?_
        refine SemF.seq rfl ?_
        refine SemF.reg true rfl ?_
        try simp only [gE, ↓gT, ↓reduceIte, reduceCtorEq, reduceAdd, reduceEqDiff, reduceLeDiff, reduceLT, eq_true hc1, eq_true hc2, eq_true hc3]; (repeat intro (_ : _ ≤ lim))
        obtain ⟨r4, h_r4, h⟩ := bs h
        refine HCp.callE (ih_laws_eqExpS (p0.L, p1.L) r4 h_r4) (by simp only [gE, ↓gT, ↓reduceIte, reduceCtorEq, reduceAdd, reduceEqDiff, reduceLeDiff, reduceLT, eq_true hc1, eq_true hc2, eq_true hc3]) (by simp only [scT, esT, and_self, true_and, and_true]) (by simp only [scT, esT, and_self, true_and, and_true]) ?_
        try simp only [gE, ↓gT, ↓reduceIte, reduceCtorEq, reduceAdd, reduceEqDiff, reduceLeDiff, reduceLT, eq_true hc1, eq_true hc2, eq_true hc3]; (repeat intro (_ : _ ≤ lim))
        by_cases hc5 : r4 = true
        · rw [if_pos hc5] at h
          refine SemF.cond rfl ?_
          simp only [gE, ↓gT, ↓reduceIte, reduceCtorEq, reduceAdd, reduceEqDiff, reduceLeDiff, reduceLT, eq_true hc1, eq_true hc2, eq_true hc3, hc5]
          refine SemF.skip rfl ?_
          simp only [gE, ↓gT, ↓reduceIte, reduceCtorEq, reduceAdd, reduceEqDiff, reduceLeDiff, reduceLT, eq_true hc1, eq_true hc2, eq_true hc3, hc5]
          refine SemF.seq rfl ?_
          refine SemF.seq rfl ?_
          refine SemF.reg true rfl ?_
          try simp only [gE, ↓gT, ↓reduceIte, reduceCtorEq, reduceAdd, reduceEqDiff, reduceLeDiff, reduceLT, eq_true hc1, eq_true hc2, eq_true hc3, hc5]; (repeat intro (_ : _ ≤ lim))
          obtain ⟨r6, h_r6, h⟩ := bs h
          refine HCp.callE (ih_laws_eqDecS (p0.Decs, p1.Decs) r6 h_r6) (by simp only [gE, ↓gT, ↓reduceIte, reduceCtorEq, reduceAdd, reduceEqDiff, reduceLeDiff, reduceLT, eq_true hc1, eq_true hc2, eq_true hc3, hc5]) (by simp only [scT, esT, and_self, true_and, and_true]) (by simp only [scT, esT, and_self, true_and, and_true]) ?_
          try simp only [gE, ↓gT, ↓reduceIte, reduceCtorEq, reduceAdd, reduceEqDiff, reduceLeDiff, reduceLT, eq_true hc1, eq_true hc2, eq_true hc3, hc5]; (repeat intro (_ : _ ≤ lim))
          by_cases hc7 : r6 = true
          · rw [if_pos hc7] at h
            refine SemF.cond rfl ?_
            simp only [gE, ↓gT, ↓reduceIte, reduceCtorEq, reduceAdd, reduceEqDiff, reduceLeDiff, reduceLT, eq_true hc1, eq_true hc2, eq_true hc3, hc5, hc7]
            refine SemF.skip rfl ?_
            simp only [gE, ↓gT, ↓reduceIte, reduceCtorEq, reduceAdd, reduceEqDiff, reduceLeDiff, reduceLT, eq_true hc1, eq_true hc2, eq_true hc3, hc5, hc7]
            refine SemF.seq rfl ?_
            refine SemF.seq rfl ?_
            refine SemF.reg true rfl ?_
            try simp only [gE, ↓gT, ↓reduceIte, reduceCtorEq, reduceAdd, reduceEqDiff, reduceLeDiff, reduceLT, eq_true hc1, eq_true hc2, eq_true hc3, hc5, hc7]; (repeat intro (_ : _ ≤ lim))
            obtain ⟨r8, h_r8, h⟩ := bs h
            refine HCp.callE (ih_laws_eqAltS (p0.Alts, p1.Alts) r8 h_r8) (by simp only [gE, ↓gT, ↓reduceIte, reduceCtorEq, reduceAdd, reduceEqDiff, reduceLeDiff, reduceLT, eq_true hc1, eq_true hc2, eq_true hc3, hc5, hc7]) (by simp only [scT, esT, and_self, true_and, and_true]) (by simp only [scT, esT, and_self, true_and, and_true]) ?_
            try simp only [gE, ↓gT, ↓reduceIte, reduceCtorEq, reduceAdd, reduceEqDiff, reduceLeDiff, reduceLT, eq_true hc1, eq_true hc2, eq_true hc3, hc5, hc7]; (repeat intro (_ : _ ≤ lim))
            by_cases hc9 : r8 = true
            · rw [if_pos hc9] at h
              refine SemF.cond rfl ?_
              simp only [gE, ↓gT, ↓reduceIte, reduceCtorEq, reduceAdd, reduceEqDiff, reduceLeDiff, reduceLT, eq_true hc1, eq_true hc2, eq_true hc3, hc5, hc7, hc9]
              refine SemF.skip rfl ?_
              simp only [gE, ↓gT, ↓reduceIte, reduceCtorEq, reduceAdd, reduceEqDiff, reduceLeDiff, reduceLT, eq_true hc1, eq_true hc2, eq_true hc3, hc5, hc7, hc9]
              refine SemF.seq rfl ?_
              refine SemF.reg true rfl ?_
              try simp only [gE, ↓gT, ↓reduceIte, reduceCtorEq, reduceAdd, reduceEqDiff, reduceLeDiff, reduceLT, eq_true hc1, eq_true hc2, eq_true hc3, hc5, hc7, hc9]; (repeat intro (_ : _ ≤ lim))
              refine SemF.ret rfl ?_
              try simp only [gE, ↓gT, ↓reduceIte, reduceCtorEq, reduceAdd, reduceEqDiff, reduceLeDiff, reduceLT, eq_true hc1, eq_true hc2, eq_true hc3, hc5, hc7, hc9]; (repeat intro (_ : _ ≤ lim))
              obtain rfl := Option.some.inj h
              simp only [gE, ↓gT, ↓reduceIte, reduceCtorEq, reduceAdd, reduceEqDiff, reduceLeDiff, reduceLT, RetP_def, eq_true hc1, eq_true hc2, eq_true hc3, hc5, hc7, hc9]
            · rw [if_neg hc9] at h
              replace hc9 := eq_false_of_ne_true hc9
              refine SemF.cond rfl ?_
              simp only [gE, ↓gT, ↓reduceIte, reduceCtorEq, reduceAdd, reduceEqDiff, reduceLeDiff, reduceLT, eq_true hc1, eq_true hc2, eq_true hc3, hc5, hc7, hc9]
              refine SemF.seq rfl ?_
              refine SemF.reg true rfl ?_
              try simp only [gE, ↓gT, ↓reduceIte, reduceCtorEq, reduceAdd, reduceEqDiff, reduceLeDiff, reduceLT, eq_true hc1, eq_true hc2, eq_true hc3, hc5, hc7, hc9]; (repeat intro (_ : _ ≤ lim))
              refine SemF.ret rfl ?_
              try simp only [gE, ↓gT, ↓reduceIte, reduceCtorEq, reduceAdd, reduceEqDiff, reduceLeDiff, reduceLT, eq_true hc1, eq_true hc2, eq_true hc3, hc5, hc7, hc9]; (repeat intro (_ : _ ≤ lim))
              obtain rfl := Option.some.inj h
              simp only [gE, ↓gT, ↓reduceIte, reduceCtorEq, reduceAdd, reduceEqDiff, reduceLeDiff, reduceLT, RetP_def, eq_true hc1, eq_true hc2, eq_true hc3, hc5, hc7, hc9]
          · rw [if_neg hc7] at h
            replace hc7 := eq_false_of_ne_true hc7
            refine SemF.cond rfl ?_
            simp only [gE, ↓gT, ↓reduceIte, reduceCtorEq, reduceAdd, reduceEqDiff, reduceLeDiff, reduceLT, eq_true hc1, eq_true hc2, eq_true hc3, hc5, hc7]
            refine SemF.seq rfl ?_
            refine SemF.reg true rfl ?_
            try simp only [gE, ↓gT, ↓reduceIte, reduceCtorEq, reduceAdd, reduceEqDiff, reduceLeDiff, reduceLT, eq_true hc1, eq_true hc2, eq_true hc3, hc5, hc7]; (repeat intro (_ : _ ≤ lim))
            refine SemF.ret rfl ?_
            try simp only [gE, ↓gT, ↓reduceIte, reduceCtorEq, reduceAdd, reduceEqDiff, reduceLeDiff, reduceLT, eq_true hc1, eq_true hc2, eq_true hc3, hc5, hc7]; (repeat intro (_ : _ ≤ lim))
            obtain rfl := Option.some.inj h
            simp only [gE, ↓gT, ↓reduceIte, reduceCtorEq, reduceAdd, reduceEqDiff, reduceLeDiff, reduceLT, RetP_def, eq_true hc1, eq_true hc2, eq_true hc3, hc5, hc7]
        · rw [if_neg hc5] at h
          replace hc5 := eq_false_of_ne_true hc5
          refine SemF.cond rfl ?_
          simp only [gE, ↓gT, ↓reduceIte, reduceCtorEq, reduceAdd, reduceEqDiff, reduceLeDiff, reduceLT, eq_true hc1, eq_true hc2, eq_true hc3, hc5]
          refine SemF.seq rfl ?_
          refine SemF.reg true rfl ?_
          try simp only [gE, ↓gT, ↓reduceIte, reduceCtorEq, reduceAdd, reduceEqDiff, reduceLeDiff, reduceLT, eq_true hc1, eq_true hc2, eq_true hc3, hc5]; (repeat intro (_ : _ ≤ lim))
          refine SemF.ret rfl ?_
          try simp only [gE, ↓gT, ↓reduceIte, reduceCtorEq, reduceAdd, reduceEqDiff, reduceLeDiff, reduceLT, eq_true hc1, eq_true hc2, eq_true hc3, hc5]; (repeat intro (_ : _ ≤ lim))
          obtain rfl := Option.some.inj h
          simp only [gE, ↓gT, ↓reduceIte, reduceCtorEq, reduceAdd, reduceEqDiff, reduceLeDiff, reduceLT, RetP_def, eq_true hc1, eq_true hc2, eq_true hc3, hc5]
      · rw [if_neg hc3] at h
        refine SemF.cond rfl ?_
        simp only [gE, ↓gT, ↓reduceIte, reduceCtorEq, reduceAdd, reduceEqDiff, reduceLeDiff, reduceLT, eq_true hc1, eq_true hc2, eq_false hc3]
        refine SemF.seq rfl ?_
        refine SemF.reg true rfl ?_
        try simp only [gE, ↓gT, ↓reduceIte, reduceCtorEq, reduceAdd, reduceEqDiff, reduceLeDiff, reduceLT, eq_true hc1, eq_true hc2, eq_false hc3]; (repeat intro (_ : _ ≤ lim))
        refine SemF.ret rfl ?_
        try simp only [gE, ↓gT, ↓reduceIte, reduceCtorEq, reduceAdd, reduceEqDiff, reduceLeDiff, reduceLT, eq_true hc1, eq_true hc2, eq_false hc3]; (repeat intro (_ : _ ≤ lim))
        obtain rfl := Option.some.inj h
        simp only [gE, ↓gT, ↓reduceIte, reduceCtorEq, reduceAdd, reduceEqDiff, reduceLeDiff, reduceLT, RetP_def, eq_true hc1, eq_true hc2, eq_false hc3]
    · rw [if_neg hc2] at h
      refine SemF.cond rfl ?_
      simp only [gE, ↓gT, ↓reduceIte, reduceCtorEq, reduceAdd, reduceEqDiff, reduceLeDiff, reduceLT, eq_true hc1, eq_false hc2]
      refine SemF.seq rfl ?_
      refine SemF.reg true rfl ?_
      try simp only [gE, ↓gT, ↓reduceIte, reduceCtorEq, reduceAdd, reduceEqDiff, reduceLeDiff, reduceLT, eq_true hc1, eq_false hc2]; (repeat intro (_ : _ ≤ lim))
      refine SemF.ret rfl ?_
      try simp only [gE, ↓gT, ↓reduceIte, reduceCtorEq, reduceAdd, reduceEqDiff, reduceLeDiff, reduceLT, eq_true hc1, eq_false hc2]; (repeat intro (_ : _ ≤ lim))
      obtain rfl := Option.some.inj h
      simp only [gE, ↓gT, ↓reduceIte, reduceCtorEq, reduceAdd, reduceEqDiff, reduceLeDiff, reduceLT, RetP_def, eq_true hc1, eq_false hc2]
  · rw [if_neg hc1] at h
    refine SemF.cond rfl ?_
    simp only [gE, ↓gT, ↓reduceIte, reduceCtorEq, reduceAdd, reduceEqDiff, reduceLeDiff, reduceLT, eq_false hc1]
    refine SemF.seq rfl ?_
    refine SemF.reg true rfl ?_
    try simp only [gE, ↓gT, ↓reduceIte, reduceCtorEq, reduceAdd, reduceEqDiff, reduceLeDiff, reduceLT, eq_false hc1]; (repeat intro (_ : _ ≤ lim))
    refine SemF.ret rfl ?_
    try simp only [gE, ↓gT, ↓reduceIte, reduceCtorEq, reduceAdd, reduceEqDiff, reduceLeDiff, reduceLT, eq_false hc1]; (repeat intro (_ : _ ≤ lim))
    obtain rfl := Option.some.inj h
    simp only [gE, ↓gT, ↓reduceIte, reduceCtorEq, reduceAdd, reduceEqDiff, reduceLeDiff, reduceLT, RetP_def, eq_false hc1]
theorem laws_eqAltS_step (f_laws_eqAltS_L0 : ((List Alt) × (List Alt) × Int) → Option (Sum Bool Unit)) (ih_laws_eqAltS_L0 : ∀ (x : ((List Alt) × (List Alt) × Int)) (out : (Sum Bool Unit)), f_laws_eqAltS_L0 x = some out → ∀ Q : HExit → Env → St → Prop, (∀ v, out = .inr v → ∀ env st sel, Weak 0 sel [] [] env st → Q (.exit 0) env st) → (∀ r, out = .inl r → ∀ env st, RetP [(4, none)] (HV.bool r) env st → Q .ret env st) → SemL P H.laws_eqAltS.ntmps 0 H.laws_eqAltS_l5 [(0, (.sl (List.map Alt.enc x.1))), (1, (.sl (List.map Alt.enc x.2.1))), (5, (.int .i64 x.2.2))] [] Q) (x : ((List Alt) × (List Alt))) (r : Bool) (h : (if ((x.1.length : Nat) : Int) = ((x.2.length : Nat) : Int) then (f_laws_eqAltS_L0 (x.1, x.2, 0) >>= fun s12 =>
    (match s12 with
    | .inl r13 => some r13
    | .inr v14 => some true)) else
    some false) = some r) : HCp P F.laws_eqAltS [(.sl (List.map Alt.enc x.1)), (.sl (List.map Alt.enc x.2))] (HV.bool r) := by
  obtain ⟨p0, p1⟩ := x
  try dsimp only at h
  refine HCp.mkF S.laws_eqAltS (by simp [H.laws_eqAltS]) (by simp only [scT, esT, and_self, true_and, and_true]) ?_
  simp only [gE, ↓gT, ↓reduceIte, reduceCtorEq, reduceAdd, reduceEqDiff, reduceLeDiff, reduceLT, H.laws_eqAltS]
  refine SemF.seq rfl ?_
  refine SemF.reg true rfl ?_
  try simp only [gE, ↓gT, ↓reduceIte, reduceCtorEq, reduceAdd, reduceEqDiff, reduceLeDiff, reduceLT]; (repeat intro (_ : _ ≤ lim))
  refine SemF.seq rfl ?_
  refine SemF.seq rfl ?_
  refine SemF.reg true rfl ?_
  try simp only [gE, ↓gT, ↓reduceIte, reduceCtorEq, reduceAdd, reduceEqDiff, reduceLeDiff, reduceLT]; (repeat intro (_ : _ ≤ lim))
  (repeat intro (_ : _ ≤ lim))
  (repeat intro (_ : _ ≤ lim))
  by_cases hc1 : ((p0.length : Nat) : Int) = ((p1.length : Nat) : Int)
  · rw [if_pos hc1] at h
    refine SemF.cond rfl ?_
    simp only [gE, ↓gT, ↓reduceIte, reduceCtorEq, reduceAdd, reduceEqDiff, reduceLeDiff, reduceLT, eq_true hc1]
    refine SemF.skip rfl ?_
    simp only [gE, ↓gT, ↓reduceIte, reduceCtorEq, reduceAdd, reduceEqDiff, reduceLeDiff, reduceLT, eq_true hc1]
    refine SemF.seq rfl ?_
    refine SemF.seq rfl ?_
    refine SemF.reg true rfl ?_
    try simp only [gE, ↓gT, ↓reduceIte, reduceCtorEq, reduceAdd, reduceEqDiff, reduceLeDiff, reduceLT, eq_true hc1]; (repeat intro (_ : _ ≤ lim))
    refine SemF.block rfl ?_
    obtain ⟨s12, h_s12, h⟩ := bs h
    rcases s12 with r13 | v14
    · dsimp only at h
      refine SemF.loop rfl ?_
      refine SemL.weak (sel := []) ⟨by simp only [gE, ↓gT, ↓reduceIte, reduceCtorEq, reduceAdd, reduceEqDiff, reduceLeDiff, reduceLT, hwT, selS, erT, eq_true hc1], by decide, by decide, by simp only [gE, ↓gT, ↓reduceIte, reduceCtorEq, reduceAdd, reduceEqDiff, reduceLeDiff, reduceLT, hwT, selS, erT, subR, eq_true hc1], by simp only [gE, ↓gT, ↓reduceIte, reduceCtorEq, reduceAdd, reduceEqDiff, reduceLeDiff, reduceLT, hwT, selS, erT, scT, esT, eq_true hc1], by simp only [gE, ↓gT, ↓reduceIte, reduceCtorEq, reduceAdd, reduceEqDiff, reduceLeDiff, reduceLT, hwT, selS, erT, scT, esT, eq_true hc1]⟩ (ih_laws_eqAltS_L0 (p0, p1, 0) (.inl r13) h_s12 _ ?_ ?_)
      · intro v hv; cases hv
      · intro r' hr' env st hy
        cases hr'
        simp only [gE, ↓gT, ↓reduceIte, reduceCtorEq, reduceAdd, reduceEqDiff, reduceLeDiff, reduceLT]
        obtain rfl := Option.some.inj h
        exact hy
    · dsimp only at h
      refine SemF.loop rfl ?_
      refine SemL.weak (sel := []) ⟨by simp only [gE, ↓gT, ↓reduceIte, reduceCtorEq, reduceAdd, reduceEqDiff, reduceLeDiff, reduceLT, hwT, selS, erT, eq_true hc1], by decide, by decide, by simp only [gE, ↓gT, ↓reduceIte, reduceCtorEq, reduceAdd, reduceEqDiff, reduceLeDiff, reduceLT, hwT, selS, erT, subR, eq_true hc1], by simp only [gE, ↓gT, ↓reduceIte, reduceCtorEq, reduceAdd, reduceEqDiff, reduceLeDiff, reduceLT, hwT, selS, erT, scT, esT, eq_true hc1], by simp only [gE, ↓gT, ↓reduceIte, reduceCtorEq, reduceAdd, reduceEqDiff, reduceLeDiff, reduceLT, hwT, selS, erT, scT, esT, eq_true hc1]⟩ (ih_laws_eqAltS_L0 (p0, p1, 0) (.inr v14) h_s12 _ ?_ ?_)
      rotate_left
      · intro r' hr'; cases hr'
      intro v hv env st sel hw
      cases hv
      simp only [gE, ↓gT, ↓reduceIte, reduceCtorEq, reduceAdd, reduceEqDiff, reduceLeDiff, reduceLT]
      first | refine SemF.weak hw ?_ | refine SemL.weak hw ?_
      refine SemF.seq rfl ?_
      refine SemF.reg true rfl ?_
      try simp only [gE, ↓gT, ↓reduceIte, reduceCtorEq, reduceAdd, reduceEqDiff, reduceLeDiff, reduceLT, eq_true hc1]; (repeat intro (_ : _ ≤ lim))
      refine SemF.ret rfl ?_
      try simp only [gE, ↓gT, ↓reduceIte, reduceCtorEq, reduceAdd, reduceEqDiff, reduceLeDiff, reduceLT, eq_true hc1]; (repeat intro (_ : _ ≤ lim))
      obtain rfl := Option.some.inj h
      simp only [gE, ↓gT, ↓reduceIte, reduceCtorEq, reduceAdd, reduceEqDiff, reduceLeDiff, reduceLT, RetP_def, eq_true hc1]
  · rw [if_neg hc1] at h
    refine SemF.cond rfl ?_
    simp only [gE, ↓gT, ↓reduceIte, reduceCtorEq, reduceAdd, reduceEqDiff, reduceLeDiff, reduceLT, eq_false hc1]
    refine SemF.seq rfl ?_
    refine SemF.reg true rfl ?_
    try simp only [gE, ↓gT, ↓reduceIte, reduceCtorEq, reduceAdd, reduceEqDiff, reduceLeDiff, reduceLT, eq_false hc1]; (repeat intro (_ : _ ≤ lim))
    refine SemF.ret rfl ?_
    try simp only [gE, ↓gT, ↓reduceIte, reduceCtorEq, reduceAdd, reduceEqDiff, reduceLeDiff, reduceLT, eq_false hc1]; (repeat intro (_ : _ ≤ lim))
    obtain rfl := Option.some.inj h
    simp only [gE, ↓gT, ↓reduceIte, reduceCtorEq, reduceAdd, reduceEqDiff, reduceLeDiff, reduceLT, RetP_def, eq_false hc1]
end K
end W
